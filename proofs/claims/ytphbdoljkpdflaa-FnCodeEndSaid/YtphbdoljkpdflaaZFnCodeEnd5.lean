/- Parts of the proof of FnCodeEnd: plain Lean functions of Go functions, and that the calls come to what they say; no condition beyond those that each theorem names. -/
import Derived.Test.YtphbdoljkpdflaaProg
import Derived.Below
import Derived.Deep.Draws
import Derived.Deep.AppendLies
import Derived.Maps.AppendAt
import Derived.OwnWalk
import Derived.Laws.BytesArg
import Derived.Laws.MakeOwn
import Derived.Laws.OwnMore
import Derived.Deep.OwnRows
import Derived.Tactics
import Derived.Lib.ConvBytes
import Derived.Laws.Slices
import Derived.WalkKit
import Derived.KernelRfl
import Derived.RowKit3
import Derived.Deep.LoopGhost
import Derived.Deep.QuietTactic
import Derived.BigQuiet
import Derived.WideLaws
import Derived.Deep.DeepCutAuto
import Derived.Deep.CutBlock
import Derived.Deep.RegionHeld3
import Derived.Laws.Rows
import Derived.Lib.AppendStr
import Derived.ArgAppend
import Derived.Laws.IdiomCopy
import Derived.OrdersHeld
import Derived.Laws.BitsLemmas
import Derived.RowKit
import Derived.Test.YtphbdoljkpdflaaZFnCodeEnd0
import Derived.Test.YtphbdoljkpdflaaZFnCodeEnd1
import Derived.Test.YtphbdoljkpdflaaZFnCodeEnd3
import Derived.Test.YtphbdoljkpdflaaZFnCodeEnd2
import Derived.Test.YtphbdoljkpdflaaZFnCodeEnd4
namespace Go.Proofs.Ytphbdoljkpdflaa.P
open Go.RowKit Go.Proofs.YtphbdoljkpdflaaW.PrintWords Go.Proofs.YtphbdoljkpdflaaW.PrintLast Go.Proofs.YtphbdoljkpdflaaW.PrintMore
attribute [local go_sem] max2_int min2_int max_two min_two max_three min_three max_four min_four
set_option linter.unusedVariables false
set_option linter.unusedSimpArgs false
def errW : Option Int → Value
 | none=>.nilIface
 | some c=>.iface 0 (.int .i64 c)
theorem errW_none : errW none = .nilIface:=rfl
theorem errW_some (c : Int) : errW (some c) = .iface 0 (.int .i64 c):=rfl
section
variable {α : Type} {d : Kd α} {e : Nat} {w : World} {base : Nat} {ok : Nat → Prop} {v : Value} {xs : List α}
end
theorem info3 : (Try.prog.info? 3).map (fun i=>(i.zero,i.size,i.bytes)) = some (some (.int .i64 0),1,8):=by kernel_rfl
theorem info5 : (Try.prog.info? 5).map (fun i=>(i.zero,i.size,i.bytes)) = some (some (.int .u8 0),1,1):=by kernel_rfl
theorem info42 : (Try.prog.info? 42).map (fun i=>(i.zero,i.size,i.bytes)) = some (some (.agg #[(.int .i64 0),(.int .i64 0),(.int .i64 0),(.int .i64 0)]),4,32):=by kernel_rfl
theorem info46 : (Try.prog.info? 46).map (fun i=>(i.zero,i.size,i.bytes)) = some (some (.agg #[(.int .i64 0),(.int .i64 0),(.int .i64 0),(.int .i64 0),(.slice none 0 0),(.slice none 0 0)]),6,80):=by kernel_rfl
structure S55 where
 f0 : Int
 f1 : Int
 f2 : Int
 f3 : Int
def z55 : S55:=⟨(0 : Int),(0 : Int),(0 : Int),(0 : Int)⟩
def k55 : Kd S55:=Kd.iso (Kd.pair (Kd.int .i64) (Kd.pair (Kd.int .i64) (Kd.pair (Kd.int .i64) (Kd.int .i64)))) (fun x : S55=>(x.f0,x.f1,x.f2,x.f3))
def rd_T55 (xs : List S55) (i : Int) : S55:=xs.getD i.toNat z55
structure S46 where
 f0 : Int
 f1 : Int
 f2 : Int
 f3 : Int
 f4 : (List S46)
 f5 : (List S46)
def z46 : S46:=⟨(0 : Int),(0 : Int),(0 : Int),(0 : Int),([] : List S46),([] : List S46)⟩
def F46 (d : Kd S46) : Kd S46:=Kd.iso (Kd.pair (Kd.int .i64) (Kd.pair (Kd.int .i64) (Kd.pair (Kd.int .i64) (Kd.pair (Kd.int .i64) (Kd.pair (Kd.slice 46 d) (Kd.slice 46 d)))))) (fun x : S46=>(x.f0,x.f1,x.f2,x.f3,x.f4,x.f5))
theorem mono46 : Kd.Mono F46:=Kd.mono_iso _ (Kd.mono_pair (Kd.mono_const _) (Kd.mono_pair (Kd.mono_const _) (Kd.mono_pair (Kd.mono_const _) (Kd.mono_pair (Kd.mono_const _) (Kd.mono_pair (Kd.mono_slice 46 Kd.mono_id) (Kd.mono_slice 46 Kd.mono_id))))))
theorem sub46 : Kd.Sub F46 [46]:=Kd.sub_iso _ (Kd.sub_pair (Kd.sub_const _ (by decide)) (Kd.sub_pair (Kd.sub_const _ (by decide)) (Kd.sub_pair (Kd.sub_const _ (by decide)) (Kd.sub_pair (Kd.sub_const _ (by decide)) (Kd.sub_pair (Kd.sub_slice 46 (by decide) Kd.sub_id) (Kd.sub_slice 46 (by decide) Kd.sub_id))))))
theorem sz46 : ∀ n,(Kd.upto F46 6 [46] n).sz = 6:=Kd.upto_sz (fun _=>rfl)
def k46 : Kd S46:=Kd.fix F46 6 [46] sz46 (Kd.upto_E sub46)
theorem k46_open {w : World} {x : S46} {cs : List Value} (h : k46.K w x cs) : ∃ A4 c4 A5 c5,cs = [.int .i64 x.f0,.int .i64 x.f1,.int .i64 x.f2,.int .i64 x.f3,.slice A4 x.f4.length c4,.slice A5 x.f5.length c5] ∧ x.f4.length ≤ c4 ∧ k46.C w A4 x.f4.length x.f4 ∧ x.f5.length ≤ c5 ∧ k46.C w A5 x.f5.length x.f5:=by
 obtain ⟨n,h⟩:=h
 cases n with
 | zero=>exact h.elim
 | succ n =>
  obtain ⟨_,_,rfl,rfl,⟨_,_,rfl,rfl,⟨_,_,rfl,rfl,⟨_,_,rfl,rfl,⟨_,_,rfl,⟨A4,c4,rfl,l4,g4⟩,⟨A5,c5,rfl,l5,g5⟩⟩⟩⟩⟩⟩:=h
  exact ⟨A4,c4,A5,c5,rfl,l4,Kd.fix_C g4,l5,Kd.fix_C g5⟩
theorem k46_mk (w : World) (x : S46) {A4 : Option Addr} {c4 : Nat} (l4 : x.f4.length ≤ c4) (g4 : k46.C w A4 x.f4.length x.f4) {A5 : Option Addr} {c5 : Nat} (l5 : x.f5.length ≤ c5) (g5 : k46.C w A5 x.f5.length x.f5) : k46.K w x [.int .i64 x.f0,.int .i64 x.f1,.int .i64 x.f2,.int .i64 x.f3,.slice A4 x.f4.length c4,.slice A5 x.f5.length c5]:=by
 obtain ⟨n4,q4⟩:=Kd.fix_C_back mono46 g4
 obtain ⟨n5,q5⟩:=Kd.fix_C_back mono46 g5
 have r4:=Kd.upto_C_le mono46 sz46 (show n4 ≤ (max n4 n5) by omega) q4
 have r5:=Kd.upto_C_le mono46 sz46 (show n5 ≤ (max n4 n5) by omega) q5
 exact ⟨(max n4 n5) + 1,⟨[.int .i64 x.f0],[.int .i64 x.f1,.int .i64 x.f2,.int .i64 x.f3,.slice A4 x.f4.length c4,.slice A5 x.f5.length c5],rfl,rfl,⟨[.int .i64 x.f1],[.int .i64 x.f2,.int .i64 x.f3,.slice A4 x.f4.length c4,.slice A5 x.f5.length c5],rfl,rfl,⟨[.int .i64 x.f2],[.int .i64 x.f3,.slice A4 x.f4.length c4,.slice A5 x.f5.length c5],rfl,rfl,⟨[.int .i64 x.f3],[.slice A4 x.f4.length c4,.slice A5 x.f5.length c5],rfl,rfl,⟨[.slice A4 x.f4.length c4],[.slice A5 x.f5.length c5],rfl,⟨A4,c4,rfl,l4,r4⟩,⟨A5,c5,rfl,l5,r5⟩⟩⟩⟩⟩⟩⟩
theorem k46_mkM (w : World) (base : Nat) (ok : Nat → Prop) (x : S46) {v4 : Value} (g4 : k46.R 46 w base ok v4 x.f4) {v5 : Value} (g5 : k46.R 46 w base ok v5 x.f5) : k46.M w base ok x [.int .i64 x.f0,.int .i64 x.f1,.int .i64 x.f2,.int .i64 x.f3,v4,v5]:=by
 obtain ⟨n4,q4⟩:=Kd.fix_R_back mono46 g4
 obtain ⟨n5,q5⟩:=Kd.fix_R_back mono46 g5
 have r4:=Kd.upto_R_le mono46 sz46 (show n4 ≤ (max n4 n5) by omega) q4
 have r5:=Kd.upto_R_le mono46 sz46 (show n5 ≤ (max n4 n5) by omega) q5
 exact ⟨(max n4 n5) + 1,⟨[.int .i64 x.f0],[.int .i64 x.f1,.int .i64 x.f2,.int .i64 x.f3,v4,v5],rfl,rfl,⟨[.int .i64 x.f1],[.int .i64 x.f2,.int .i64 x.f3,v4,v5],rfl,rfl,⟨[.int .i64 x.f2],[.int .i64 x.f3,v4,v5],rfl,rfl,⟨[.int .i64 x.f3],[v4,v5],rfl,rfl,⟨[v4],[v5],rfl,⟨v4,rfl,r4⟩,⟨v5,rfl,r5⟩⟩⟩⟩⟩⟩⟩
theorem k46_mkF (W : World) (ok : Nat → Prop) (x : S46) {A4 : Option Addr} {c4 : Nat} (l4 : x.f4.length ≤ c4) (g4 : Kd.F k46 W ok A4 x.f4.length x.f4) {A5 : Option Addr} {c5 : Nat} (l5 : x.f5.length ≤ c5) (g5 : Kd.F k46 W ok A5 x.f5.length x.f5) : Kd.FK k46 W ok x [.int .i64 x.f0,.int .i64 x.f1,.int .i64 x.f2,.int .i64 x.f3,.slice A4 x.f4.length c4,.slice A5 x.f5.length c5]:=fun W2 hW=>k46_mk W2 x l4 (g4 W2 hW) l5 (g5 W2 hW)
def rd_T46 (xs : List S46) (i : Int) : S46:=xs.getD i.toNat z46
theorem at_T46 {w : World} {A : Option Addr} {n : Nat} {xs : List S46} (h : Kd.C k46 w A n xs) (i : Int) (h0 : 0 ≤ i) (h1 : i < n) : ∃ ad A4 c4 A5 c5,A = some ad ∧ w.cell? (ad.add (i.toNat * 6)) = some (.int .i64 (rd_T46 xs i).f0) ∧ w.cell? ⟨(ad.add (i.toNat * 6)).block,(ad.add (i.toNat * 6)).off + 1,none⟩ = some (.int .i64 (rd_T46 xs i).f1) ∧ w.cell? ⟨(ad.add (i.toNat * 6)).block,(ad.add (i.toNat * 6)).off + 2,none⟩ = some (.int .i64 (rd_T46 xs i).f2) ∧ w.cell? ⟨(ad.add (i.toNat * 6)).block,(ad.add (i.toNat * 6)).off + 3,none⟩ = some (.int .i64 (rd_T46 xs i).f3) ∧ w.cell? ⟨(ad.add (i.toNat * 6)).block,(ad.add (i.toNat * 6)).off + 4,none⟩ = some (.slice A4 (rd_T46 xs i).f4.length c4) ∧ w.cell? ⟨(ad.add (i.toNat * 6)).block,(ad.add (i.toNat * 6)).off + 5,none⟩ = some (.slice A5 (rd_T46 xs i).f5.length c5) ∧ (rd_T46 xs i).f4.length ≤ c4 ∧ k46.C w A4 (rd_T46 xs i).f4.length (rd_T46 xs i).f4 ∧ (rd_T46 xs i).f5.length ≤ c5 ∧ k46.C w A5 (rd_T46 xs i).f5.length (rd_T46 xs i).f5:=by
 obtain ⟨ad,c,e,_,hK,hc0⟩:=Kd.C_get h z46 i h0 h1
 have hc : ∀ j u,c[j]? = some u → w.cell? (ad.add (i.toNat * 6 + j)) = some u:=hc0
 obtain ⟨A4,c4,A5,c5,rfl,l4,g4,l5,g5⟩:=k46_open hK
 exact ⟨ad,A4,c4,A5,c5,e,hc 0 _ rfl,by rw [← add_field _ _ 1 (by omega)];exact hc 1 _ rfl,by rw [← add_field _ _ 2 (by omega)];exact hc 2 _ rfl,by rw [← add_field _ _ 3 (by omega)];exact hc 3 _ rfl,by rw [← add_field _ _ 4 (by omega)];exact hc 4 _ rfl,by rw [← add_field _ _ 5 (by omega)];exact hc 5 _ rfl,l4,g4,l5,g5⟩
structure S42 where
 f0 : Int
 f1 : Int
 f2 : Int
 f3 : Int
def z42 : S42:=⟨(0 : Int),(0 : Int),(0 : Int),(0 : Int)⟩
def k42 : Kd S42:=Kd.iso (Kd.pair (Kd.int .i64) (Kd.pair (Kd.int .i64) (Kd.pair (Kd.int .i64) (Kd.int .i64)))) (fun x : S42=>(x.f0,x.f1,x.f2,x.f3))
theorem k42_open {w : World} {x : S42} {cs : List Value} (h : k42.K w x cs) : cs = [.int .i64 x.f0,.int .i64 x.f1,.int .i64 x.f2,.int .i64 x.f3]:=by
 obtain ⟨_,_,rfl,rfl,⟨_,_,rfl,rfl,⟨_,_,rfl,rfl,rfl⟩⟩⟩:=h
 exact rfl
theorem k42_openM {w : World} {base : Nat} {ok : Nat → Prop} {x : S42} {cs : List Value} (h : k42.M w base ok x cs) : cs = [.int .i64 x.f0,.int .i64 x.f1,.int .i64 x.f2,.int .i64 x.f3]:=by
 obtain ⟨_,_,rfl,rfl,⟨_,_,rfl,rfl,⟨_,_,rfl,rfl,rfl⟩⟩⟩:=h
 exact rfl
theorem k42_mkM (w : World) (base : Nat) (ok : Nat → Prop) (x : S42)  : k42.M w base ok x [.int .i64 x.f0,.int .i64 x.f1,.int .i64 x.f2,.int .i64 x.f3]:=⟨[.int .i64 x.f0],[.int .i64 x.f1,.int .i64 x.f2,.int .i64 x.f3],rfl,rfl,⟨[.int .i64 x.f1],[.int .i64 x.f2,.int .i64 x.f3],rfl,rfl,⟨[.int .i64 x.f2],[.int .i64 x.f3],rfl,rfl,rfl⟩⟩⟩
def rd_T42 (xs : List S42) (i : Int) : S42:=xs.getD i.toNat z42
theorem at_T42 {w : World} {A : Option Addr} {n : Nat} {xs : List S42} (h : Kd.C k42 w A n xs) (i : Int) (h0 : 0 ≤ i) (h1 : i < n) : ∃ ad ,A = some ad ∧ w.cell? (ad.add (i.toNat * 4)) = some (.int .i64 (rd_T42 xs i).f0) ∧ w.cell? ⟨(ad.add (i.toNat * 4)).block,(ad.add (i.toNat * 4)).off + 1,none⟩ = some (.int .i64 (rd_T42 xs i).f1) ∧ w.cell? ⟨(ad.add (i.toNat * 4)).block,(ad.add (i.toNat * 4)).off + 2,none⟩ = some (.int .i64 (rd_T42 xs i).f2) ∧ w.cell? ⟨(ad.add (i.toNat * 4)).block,(ad.add (i.toNat * 4)).off + 3,none⟩ = some (.int .i64 (rd_T42 xs i).f3):=by
 obtain ⟨ad,c,e,_,hK,hc0⟩:=Kd.C_get h z42 i h0 h1
 have hc : ∀ j u,c[j]? = some u → w.cell? (ad.add (i.toNat * 4 + j)) = some u:=hc0
 obtain rfl:=k42_open hK
 exact ⟨ad,e,hc 0 _ rfl,by rw [← add_field _ _ 1 (by omega)];exact hc 1 _ rfl,by rw [← add_field _ _ 2 (by omega)];exact hc 2 _ rfl,by rw [← add_field _ _ 3 (by omega)];exact hc 3 _ rfl⟩
structure S59 where
 f0 : Int
 f1 : Int
 f2 : Int
 f3 : Int
 f4 : (List S59)
 f5 : (List S59)
def z59 : S59:=⟨(0 : Int),(0 : Int),(0 : Int),(0 : Int),([] : List S59),([] : List S59)⟩
def F59 (d : Kd S59) : Kd S59:=Kd.iso (Kd.pair (Kd.int .i64) (Kd.pair (Kd.int .i64) (Kd.pair (Kd.int .i64) (Kd.pair (Kd.int .i64) (Kd.pair (Kd.slice 59 d) (Kd.slice 59 d)))))) (fun x : S59=>(x.f0,x.f1,x.f2,x.f3,x.f4,x.f5))
theorem sub59 : Kd.Sub F59 [59]:=Kd.sub_iso _ (Kd.sub_pair (Kd.sub_const _ (by decide)) (Kd.sub_pair (Kd.sub_const _ (by decide)) (Kd.sub_pair (Kd.sub_const _ (by decide)) (Kd.sub_pair (Kd.sub_const _ (by decide)) (Kd.sub_pair (Kd.sub_slice 59 (by decide) Kd.sub_id) (Kd.sub_slice 59 (by decide) Kd.sub_id))))))
theorem sz59 : ∀ n,(Kd.upto F59 6 [59] n).sz = 6:=Kd.upto_sz (fun _=>rfl)
def k59 : Kd S59:=Kd.fix F59 6 [59] sz59 (Kd.upto_E sub59)
def rd_T59 (xs : List S59) (i : Int) : S59:=xs.getD i.toNat z59
structure S7 where
 f0 : Int
 f1 : Int
 f2 : Bool
 f3 : Int
def k7 : Kd S7:=Kd.iso (Kd.pair (Kd.int .i64) (Kd.pair (Kd.int .i64) (Kd.pair Kd.bool (Kd.int .u8)))) (fun x : S7=>(x.f0,x.f1,x.f2,x.f3))
structure S8 where
 f0 : Int
 f1 : Int
 f2 : Bool
 f3 : Int
def k8 : Kd S8:=Kd.iso (Kd.pair (Kd.int .i64) (Kd.pair (Kd.int .i64) (Kd.pair Kd.bool (Kd.int .u8)))) (fun x : S8=>(x.f0,x.f1,x.f2,x.f3))
end Go.Proofs.Ytphbdoljkpdflaa.P

namespace Go.Proofs.Ytphbdoljkpdflaa.P
open Go.RowKit Go.Proofs.YtphbdoljkpdflaaW.PrintWords Go.Proofs.YtphbdoljkpdflaaW.PrintLast Go.Proofs.YtphbdoljkpdflaaW.PrintMore
attribute [local go_sem] max2_int min2_int max_two min_two max_three min_three max_four min_four
set_option linter.unusedVariables false
set_option linter.unusedSimpArgs false
theorem goesM_ {P : Program} {ops : Array Oper} {Q : Exit → Act → World → Prop} {rest : List Oper} {oi : Oper} {a : Act} {w : World} (N : Option Tmp) {f : FuncId} {fn : Func} {as_ : Array Operand} {ts : Array TypeId} (hf : P.funcs[f]? = some fn) (args : Array Value) (h : Calls P f args w fun e w' => ∃ v, e = .returned v ∧ wpList P ops Q rest (a.put N v) w') (hd : oi.dst = N := by exact rfl) (hg : oi.guard = none := by exact rfl) (hname : (fn.name == "runtime.NumGoroutine") = false := by kernel_rfl) (hb : fn.body.isSome = true := by exact rfl) (hop : oi.op = .call { callee := .value (.func f), args := as_, argTypes := ts } := by exact rfl) (hargs : as_.map a.eval = args := by (try simp only [List.map_toArray, List.map_cons, List.map_nil]); first | done | rfl | (simp only [List.length_drop, List.length_take]; rfl)) : wpList P ops Q (oi :: rest) a w := goesL_ N hd hg hf hname hb args hop hargs h
theorem bz4_ {w : World} {g : Nat} {t : TypeId} {c0 c1 c2 c3 : Value} (h : Aside0 (w.heap[g]? = some (.cells #[c0,c1,c2,c3] t (0,0)))) : w.cell? ⟨g,0,none⟩ = some c0 ∧ w.cell? ⟨g,1,none⟩ = some c1 ∧ w.cell? ⟨g,2,none⟩ = some c2 ∧ w.cell? ⟨g,3,none⟩ = some c3 ∧ w.frozen? ⟨g,0,none⟩ = false ∧ w.frozen? ⟨g,1,none⟩ = false ∧ w.frozen? ⟨g,2,none⟩ = false ∧ w.frozen? ⟨g,3,none⟩ = false:=⟨(blk_cell h.out 0).trans rfl,(blk_cell h.out 1).trans rfl,(blk_cell h.out 2).trans rfl,(blk_cell h.out 3).trans rfl,blk_frozen h.out 0,blk_frozen h.out 1,blk_frozen h.out 2,blk_frozen h.out 3⟩
theorem bp4_0_ {w : World} {g : Nat} {t : TypeId} {c0 c1 c2 c3 z : Value} (h : w.heap[g]? = some (.cells #[z,c1,c2,c3] t (0,0))) : (w.setCell ⟨g,0,none⟩ c0).heap[g]? = some (.cells #[c0,c1,c2,c3] t (0,0)):=blk_put h 0 c0 rfl
theorem bp4_1_ {w : World} {g : Nat} {t : TypeId} {c0 c1 c2 c3 z : Value} (h : w.heap[g]? = some (.cells #[c0,z,c2,c3] t (0,0))) : (w.setCell ⟨g,1,none⟩ c1).heap[g]? = some (.cells #[c0,c1,c2,c3] t (0,0)):=blk_put h 1 c1 rfl
theorem bp4_2_ {w : World} {g : Nat} {t : TypeId} {c0 c1 c2 c3 z : Value} (h : w.heap[g]? = some (.cells #[c0,c1,z,c3] t (0,0))) : (w.setCell ⟨g,2,none⟩ c2).heap[g]? = some (.cells #[c0,c1,c2,c3] t (0,0)):=blk_put h 2 c2 rfl
theorem bp4_3_ {w : World} {g : Nat} {t : TypeId} {c0 c1 c2 c3 z : Value} (h : w.heap[g]? = some (.cells #[c0,c1,c2,z] t (0,0))) : (w.setCell ⟨g,3,none⟩ c3).heap[g]? = some (.cells #[c0,c1,c2,c3] t (0,0)):=blk_put h 3 c3 rfl
theorem bz6_ {w : World} {g : Nat} {t : TypeId} {c0 c1 c2 c3 c4 c5 : Value} (h : Aside0 (w.heap[g]? = some (.cells #[c0,c1,c2,c3,c4,c5] t (0,0)))) : w.cell? ⟨g,0,none⟩ = some c0 ∧ w.cell? ⟨g,1,none⟩ = some c1 ∧ w.cell? ⟨g,2,none⟩ = some c2 ∧ w.cell? ⟨g,3,none⟩ = some c3 ∧ w.cell? ⟨g,4,none⟩ = some c4 ∧ w.cell? ⟨g,5,none⟩ = some c5 ∧ w.frozen? ⟨g,0,none⟩ = false ∧ w.frozen? ⟨g,1,none⟩ = false ∧ w.frozen? ⟨g,2,none⟩ = false ∧ w.frozen? ⟨g,3,none⟩ = false ∧ w.frozen? ⟨g,4,none⟩ = false ∧ w.frozen? ⟨g,5,none⟩ = false:=⟨(blk_cell h.out 0).trans rfl,(blk_cell h.out 1).trans rfl,(blk_cell h.out 2).trans rfl,(blk_cell h.out 3).trans rfl,(blk_cell h.out 4).trans rfl,(blk_cell h.out 5).trans rfl,blk_frozen h.out 0,blk_frozen h.out 1,blk_frozen h.out 2,blk_frozen h.out 3,blk_frozen h.out 4,blk_frozen h.out 5⟩
theorem bp6_0_ {w : World} {g : Nat} {t : TypeId} {c0 c1 c2 c3 c4 c5 z : Value} (h : w.heap[g]? = some (.cells #[z,c1,c2,c3,c4,c5] t (0,0))) : (w.setCell ⟨g,0,none⟩ c0).heap[g]? = some (.cells #[c0,c1,c2,c3,c4,c5] t (0,0)):=blk_put h 0 c0 rfl
theorem bp6_1_ {w : World} {g : Nat} {t : TypeId} {c0 c1 c2 c3 c4 c5 z : Value} (h : w.heap[g]? = some (.cells #[c0,z,c2,c3,c4,c5] t (0,0))) : (w.setCell ⟨g,1,none⟩ c1).heap[g]? = some (.cells #[c0,c1,c2,c3,c4,c5] t (0,0)):=blk_put h 1 c1 rfl
theorem bp6_2_ {w : World} {g : Nat} {t : TypeId} {c0 c1 c2 c3 c4 c5 z : Value} (h : w.heap[g]? = some (.cells #[c0,c1,z,c3,c4,c5] t (0,0))) : (w.setCell ⟨g,2,none⟩ c2).heap[g]? = some (.cells #[c0,c1,c2,c3,c4,c5] t (0,0)):=blk_put h 2 c2 rfl
theorem bp6_3_ {w : World} {g : Nat} {t : TypeId} {c0 c1 c2 c3 c4 c5 z : Value} (h : w.heap[g]? = some (.cells #[c0,c1,c2,z,c4,c5] t (0,0))) : (w.setCell ⟨g,3,none⟩ c3).heap[g]? = some (.cells #[c0,c1,c2,c3,c4,c5] t (0,0)):=blk_put h 3 c3 rfl
theorem bp6_4_ {w : World} {g : Nat} {t : TypeId} {c0 c1 c2 c3 c4 c5 z : Value} (h : w.heap[g]? = some (.cells #[c0,c1,c2,c3,z,c5] t (0,0))) : (w.setCell ⟨g,4,none⟩ c4).heap[g]? = some (.cells #[c0,c1,c2,c3,c4,c5] t (0,0)):=blk_put h 4 c4 rfl
theorem bp6_5_ {w : World} {g : Nat} {t : TypeId} {c0 c1 c2 c3 c4 c5 z : Value} (h : w.heap[g]? = some (.cells #[c0,c1,c2,c3,c4,z] t (0,0))) : (w.setCell ⟨g,5,none⟩ c5).heap[g]? = some (.cells #[c0,c1,c2,c3,c4,c5] t (0,0)):=blk_put h 5 c5 rfl
theorem q0_ {A Z : Prop} (a0 : Aside0 A) (h : A → Z:=by intro h0_;repeat (first | (with_reducible first | exact h0_ | apply below_alloc | apply pw_below_drewN | apply below_drew1) | exact h0_)) : Z:=h a0.out
theorem q1_ {A Z : Prop} (a0 : Aside0 A) (h : A → Z:=by intro h0_;(with_reducible repeat (first | refine blk_drewN ?_ _ | refine blk_drew ?_ | refine blk_alloc ?_ _));exact h0_) : Z:=h a0.out
theorem q2_ {A B Z : Prop} (a0 : Aside0 A) (a1 : Aside0 B) (h : A → B → Z:=by intro h0_ h1_;repeat (first | (with_reducible first | exact h0_ | apply below_alloc | apply pw_below_drewN | apply below_drew1 | refine below_set ?_ h1_) | exact h0_)) : Z:=h a0.out a1.out
theorem q3_ {A Z : Prop} (a0 : Aside0 A) (h : A → Z:=by intro h0_;(with_reducible repeat (first | apply Kd.R_alloc | apply Kd.R_drewN | apply Kd.R_drew));exact h0_) : Z:=h a0.out
theorem q8_ {A Z : Prop} (a0 : Aside0 A) (h : A → Z:=by intro h0_;repeat (first | (with_reducible first | exact h0_ | apply IsS101.alloc | apply IsS101.drewN | apply IsS101.drew | apply IsS101.set_1) | exact h0_)) : Z:=h a0.out
theorem q9_ {A B Z : Prop} (a0 : Aside0 A) (a1 : Aside0 B) (h : A → B → Z:=by intro h0_ h1_;repeat (first | (with_reducible first | exact h0_ | apply below_alloc | apply pw_below_drewN | apply below_drew1 | refine below_set ?_ (IsS101.ge h1_)) | exact h0_)) : Z:=h a0.out a1.out
theorem q10_ {A Z : Prop} (a0 : Aside0 A) (h : A → Z:=by intro h0_;repeat (first | (with_reducible first | exact h0_ | apply KeepBut.set_ | apply keep_drewN | apply keep_drew | apply keep_alloc) | exact h0_)) : Z:=h a0.out
theorem q11_ {A B Z : Prop} (a0 : Aside0 A) (a1 : Aside0 B) (h : A → B → Z:=by intro h0_ h1_;repeat (first | (with_reducible first | exact h0_ | apply IsS101.alloc | apply IsS101.drewN | apply IsS101.drew | apply IsS101.set_1 | refine IsS101.far ?_ h1_ _) | exact h0_)) : Z:=h a0.out a1.out
theorem q12_ {A B C Z : Prop} (a0 : Aside0 A) (a1 : Aside0 B) (a2 : Aside0 C) (h : A → B → C → Z:=by intro h0_ h1_ h2_;repeat (first | (with_reducible first | exact h0_ | apply below_alloc | apply pw_below_drewN | apply below_drew1 | refine below_set ?_ (IsS101.ge h1_) | refine below_set ?_ h2_) | exact h0_)) : Z:=h a0.out a1.out a2.out
theorem q13_ {A B Z : Prop} (a0 : Aside0 A) (a1 : Aside0 B) (h : A → B → Z:=by intro h0_ h1_;repeat (first | (with_reducible first | exact h0_ | apply KeepBut.set_ | apply keep_drewN | apply keep_drew | apply keep_alloc | refine keep_far ?_ h1_ _) | exact h0_)) : Z:=h a0.out a1.out
theorem q14_ {A Z : Prop} (a0 : Aside0 A) (h : A → Z:=by intro h0_;(with_reducible repeat (first | refine blk_drewN ?_ _ | refine blk_drew ?_ | refine blk_alloc ?_ _));apply bp6_5_;(with_reducible repeat (first | refine blk_drewN ?_ _ | refine blk_drew ?_ | refine blk_alloc ?_ _));apply bp6_4_;(with_reducible repeat (first | refine blk_drewN ?_ _ | refine blk_drew ?_ | refine blk_alloc ?_ _));apply bp6_3_;(with_reducible repeat (first | refine blk_drewN ?_ _ | refine blk_drew ?_ | refine blk_alloc ?_ _));apply bp6_2_;(with_reducible repeat (first | refine blk_drewN ?_ _ | refine blk_drew ?_ | refine blk_alloc ?_ _));apply bp6_1_;(with_reducible repeat (first | refine blk_drewN ?_ _ | refine blk_drew ?_ | refine blk_alloc ?_ _));apply bp6_0_;(with_reducible repeat (first | refine blk_drewN ?_ _ | refine blk_drew ?_ | refine blk_alloc ?_ _));exact h0_) : Z:=h a0.out
theorem q15_ {A Z : Prop} (a0 : Aside0 A) (h : A → Z:=by intro h0_;(with_reducible repeat (first | apply Kd.N_alloc | apply Kd.N_drewN | apply Kd.N_drew));exact h0_) : Z:=h a0.out
end Go.Proofs.Ytphbdoljkpdflaa.P

namespace Go.Proofs.Ytphbdoljkpdflaa.P
open Go.RowKit Go.Proofs.YtphbdoljkpdflaaW.PrintWords Go.Proofs.YtphbdoljkpdflaaW.PrintLast Go.Proofs.YtphbdoljkpdflaaW.PrintMore
open Go.Proofs.YtphbdoljkpdflaaW.PrintWords renaming Aside0.mk → O
attribute [local go_sem] max2_int min2_int max_two min_two max_three min_three max_four min_four
set_option linter.unusedVariables false
set_option linter.unusedSimpArgs false
def impl_fits.f (a0 : Int) (a1 : Int) : Option (Bool):=if a0 = 0 then (some true) else (if a0 > 0 then (some (decide (a0 < a1))) else (some false))
set_option maxHeartbeats 8000000 in
set_option maxRecDepth 100000 in
theorem impl_fits.calls (a0 : Int) (a1 : Int) (r : Bool) (w : World) (h : impl_fits.f a0 a1 = some r) :
  Calls Try.prog 57 #[.int .i64 a0,.int .i64 a1] w fun e w'=>e = .returned (.bool r) ∧ Drawn0 w w':=by
 have H : (if a0 = 0 then (some true) else (if a0 > 0 then (some (decide (a0 < a1))) else (some false))) = some r:=h;clear h
 by_cases c3 : a0 = 0
 ·rw [if_pos c3] at H;have c3b0 : (a0 == 0) = true:=beq_iff_eq.mpr c3;have c3b1 : (a0 != 0) = false:=bne_eq_false_iff_eq.mpr c3;clear c3;obtain rfl:=Option.some.inj H;go_enter Try.func57,Try.ntmps57
  go_wp2
  go_ret
  exact ⟨by first | rfl | (simp;done) | (simp [*];done),by repeat (first | exact Drawn0.refl _ | apply Drawn0.step)⟩
 ·rw [if_neg c3] at H;have c3b0 : (a0 == 0) = false:=beq_eq_false_iff_ne.mpr c3;have c3b1 : (a0 != 0) = true:=bne_iff_ne.mpr c3
  by_cases c4 : a0 > 0
  ·rw [if_pos c4] at H;have c4b0 : decide (0 < a0) = true:=decide_eq_true c4;clear c4;obtain rfl:=Option.some.inj H;go_enter Try.func57,Try.ntmps57
   go_wp2
   go_ret
   exact ⟨by first | rfl | (simp;done) | (simp [*];done),by repeat (first | exact Drawn0.refl _ | apply Drawn0.step)⟩
  ·rw [if_neg c4] at H;have c4b0 : decide (0 < a0) = false:=decide_eq_false c4;clear c4;obtain rfl:=Option.some.inj H;go_enter Try.func57,Try.ntmps57
   go_wp2
   go_ret
   exact ⟨by first | rfl | (simp;done) | (simp [*];done),by repeat (first | exact Drawn0.refl _ | apply Drawn0.step)⟩
def impl_NumOk.f (a0 : Int) : Option (Bool):=if a0 ≥ (-999) then (some (decide (a0 ≤ 999))) else (some false)
set_option maxHeartbeats 8000000 in
set_option maxRecDepth 100000 in
theorem impl_NumOk.calls (a0 : Int) (r : Bool) (w : World) (h : impl_NumOk.f a0 = some r) :
  Calls Try.prog 58 #[.int .i64 a0] w fun e w'=>e = .returned (.bool r) ∧ Drawn0 w w':=by
 have H : (if a0 ≥ (-999) then (some (decide (a0 ≤ 999))) else (some false)) = some r:=h;clear h
 by_cases c2 : a0 ≥ (-999)
 ·rw [if_pos c2] at H;have c2b0 : decide ((-999) ≤ a0) = true:=decide_eq_true c2;clear c2;obtain rfl:=Option.some.inj H;go_enter Try.func58,Try.ntmps58
  go_wp2
  go_ret
  exact ⟨by first | rfl | (simp;done) | (simp [*];done),by repeat (first | exact Drawn0.refl _ | apply Drawn0.step)⟩
 ·rw [if_neg c2] at H;have c2b0 : decide ((-999) ≤ a0) = false:=decide_eq_false c2;clear c2;obtain rfl:=Option.some.inj H;go_enter Try.func58,Try.ntmps58
  go_wp2
  go_ret
  exact ⟨by first | rfl | (simp;done) | (simp [*];done),by repeat (first | exact Drawn0.refl _ | apply Drawn0.step)⟩
def impl_isOp.f (a0 : Int) : Option (Bool):=if a0 ≥ 1 then (some (decide (a0 ≤ 5))) else (some false)
set_option maxHeartbeats 8000000 in
set_option maxRecDepth 100000 in
theorem impl_isOp.calls (a0 : Int) (r : Bool) (w : World) (h : impl_isOp.f a0 = some r) :
  Calls Try.prog 59 #[.int .i64 a0] w fun e w'=>e = .returned (.bool r) ∧ Drawn0 w w':=by
 have H : (if a0 ≥ 1 then (some (decide (a0 ≤ 5))) else (some false)) = some r:=h;clear h
 by_cases c2 : a0 ≥ 1
 ·rw [if_pos c2] at H;have c2b0 : decide (1 ≤ a0) = true:=decide_eq_true c2;clear c2;obtain rfl:=Option.some.inj H;go_enter Try.func59,Try.ntmps59
  go_wp2
  go_ret
  exact ⟨by first | rfl | (simp;done) | (simp [*];done),by repeat (first | exact Drawn0.refl _ | apply Drawn0.step)⟩
 ·rw [if_neg c2] at H;have c2b0 : decide (1 ≤ a0) = false:=decide_eq_false c2;clear c2;obtain rfl:=Option.some.inj H;go_enter Try.func59,Try.ntmps59
  go_wp2
  go_ret
  exact ⟨by first | rfl | (simp;done) | (simp [*];done),by repeat (first | exact Drawn0.refl _ | apply Drawn0.step)⟩
def impl_Stmt_numberOk.f (a0_0 : Int) (a0_1 : Int) (a0_2 : Int) (a0_3 : Int) (l0_4 : List (S46)) (l0_5 : List (S46)) : Option (Bool):=if a0_0 = 1 then ((impl_NumOk.f a0_3).bind fun t857=>(some t857)) else (if a0_0 = 2 then ((impl_isOp.f a0_3).bind fun t858=>(some t858)) else (some (a0_3 == 0)))
set_option maxHeartbeats 8000000 in
set_option maxRecDepth 100000 in
theorem impl_Stmt_numberOk.calls (a0_0 : Int) (a0_1 : Int) (a0_2 : Int) (a0_3 : Int) (A0_4 : Option Addr) (c0_4 : Nat) (l0_4 : List (S46)) (A0_5 : Option Addr) (c0_5 : Nat) (l0_5 : List (S46)) (r : Bool) (w : World) (hr0_4 : Kd.C k46 w A0_4 l0_4.length l0_4) (hc0_4 : l0_4.length ≤ c0_4) (hr0_5 : Kd.C k46 w A0_5 l0_5.length l0_5) (hc0_5 : l0_5.length ≤ c0_5) (h : impl_Stmt_numberOk.f a0_0 a0_1 a0_2 a0_3 l0_4 l0_5 = some r) :
  Calls Try.prog 81 #[.agg #[.int .i64 a0_0,.int .i64 a0_1,.int .i64 a0_2,.int .i64 a0_3,.slice A0_4 l0_4.length c0_4,.slice A0_5 l0_5.length c0_5]] w fun e w'=>e = .returned (.bool r) ∧ Below w.heap.size w w':=by
 have hu46:=Try.underlying46;have HR0_4:=O hr0_4;have HC0_4:=O hc0_4;clear hr0_4 hc0_4;have HR0_5:=O hr0_5;have HC0_5:=O hc0_5;clear hr0_5 hc0_5;have HB:=O (Below.refl w.heap.size w);have H : (if a0_0 = 1 then ((impl_NumOk.f a0_3).bind fun t857=>(some t857)) else (if a0_0 = 2 then ((impl_isOp.f a0_3).bind fun t858=>(some t858)) else (some (a0_3 == 0)))) = some r:=h;clear h
 by_cases c2 : a0_0 = 1
 ·rw [if_pos c2] at H;have c2b0 : (a0_0 == 1) = true:=beq_iff_eq.mpr c2;have c2b1 : (a0_0 != 1) = false:=bne_eq_false_iff_eq.mpr c2;clear c2;replace H:=Option.bind_eq_some_iff.mp H;obtain ⟨t857,A30,H⟩:=H;replace H : (some t857) = some r:=H;have A3:=O A30;clear A30;obtain rfl:=Option.some.inj H;go_enter Try.func81,Try.ntmps81
  go_wp2_with (first | ((with_reducible refine gate_dst (N:=1) rfl ?_);refine box_event ?hg (N:=1) ?hd (cs:=#[.int .i64 a0_0,.int .i64 a0_1,.int .i64 a0_2,.int .i64 a0_3,.slice A0_4 l0_4.length c0_4,.slice A0_5 l0_5.length c0_5]) (t:=46) ?hr ?_;(case hd=>rfl);(case hg=>rfl);(case hr=>first | (go_simp;done) | (go_simp;rfl));intro gb856 hg w4 hbox hb;have n0_:=O (below_step (q0_ HB) hb);have n1_:=O (hbox);have n2_:=O ((by rw [hg];exact (below_size (q0_ HB)) : w.heap.size ≤ gb856));have n3_:=O ((by rw [hg];exact (below_size (q0_ HB)) : w.heap.size ≤ gb856));clear HB;have HB:=n0_;have BK856:=n1_;have GW856:=n2_;have GE856:=n3_;clear n0_ n1_ n2_ n3_ hb hbox hg;obtain ⟨hcz5_0,hcz5_1,hcz5_2,hcz5_3,hcz5_4,hcz5_5,hfz5_0,hfz5_1,hfz5_2,hfz5_3,hfz5_4,hfz5_5⟩:=bz6_ BK856) | ((with_reducible refine gate_callee (f:=58) rfl ?_);refine goesM_ (some 9) Try.func58 #[.int .i64 a0_3] ?_;(with_reducible refine (impl_NumOk.calls a0_3 t857 _ A3.out).mono ?_);rintro e w' ⟨rfl,⟨nd,rfl⟩⟩;refine ⟨_,rfl,?_⟩))
  go_ret
  exact ⟨by first | rfl | (simp [errW_none,errW_some] <;> rfl) | (simp [*,errW_none,errW_some] <;> rfl),by repeat (first | (with_reducible first | exact HB.out | apply below_alloc | apply pw_below_drewN | apply below_drew1 | refine below_set ?_ GE856.out) | exact HB.out)⟩
 ·rw [if_neg c2] at H;have c2b0 : (a0_0 == 1) = false:=beq_eq_false_iff_ne.mpr c2;have c2b1 : (a0_0 != 1) = true:=bne_iff_ne.mpr c2
  by_cases c6 : a0_0 = 2
  ·rw [if_pos c6] at H;have c6b0 : (a0_0 == 2) = true:=beq_iff_eq.mpr c6;have c6b1 : (a0_0 != 2) = false:=bne_eq_false_iff_eq.mpr c6;clear c6;replace H:=Option.bind_eq_some_iff.mp H;obtain ⟨t858,A70,H⟩:=H;replace H : (some t858) = some r:=H;have A7:=O A70;clear A70;obtain rfl:=Option.some.inj H;go_enter Try.func81,Try.ntmps81
   go_wp2_with (first | ((with_reducible refine gate_dst (N:=1) rfl ?_);refine box_event ?hg (N:=1) ?hd (cs:=#[.int .i64 a0_0,.int .i64 a0_1,.int .i64 a0_2,.int .i64 a0_3,.slice A0_4 l0_4.length c0_4,.slice A0_5 l0_5.length c0_5]) (t:=46) ?hr ?_;(case hd=>rfl);(case hg=>rfl);(case hr=>first | (go_simp;done) | (go_simp;rfl));intro gb856 hg w8 hbox hb;have n0_:=O (below_step (q0_ HB) hb);have n1_:=O (hbox);have n2_:=O ((by rw [hg];exact (below_size (q0_ HB)) : w.heap.size ≤ gb856));have n3_:=O ((by rw [hg];exact (below_size (q0_ HB)) : w.heap.size ≤ gb856));clear HB;have HB:=n0_;have BK856:=n1_;have GW856:=n2_;have GE856:=n3_;clear n0_ n1_ n2_ n3_ hb hbox hg;obtain ⟨hcz9_0,hcz9_1,hcz9_2,hcz9_3,hcz9_4,hcz9_5,hfz9_0,hfz9_1,hfz9_2,hfz9_3,hfz9_4,hfz9_5⟩:=bz6_ BK856) | ((with_reducible refine gate_callee (f:=59) rfl ?_);refine goesM_ (some 14) Try.func59 #[.int .i64 a0_3] ?_;(with_reducible refine (impl_isOp.calls a0_3 t858 _ A7.out).mono ?_);rintro e w' ⟨rfl,⟨nd,rfl⟩⟩;refine ⟨_,rfl,?_⟩))
   go_ret
   exact ⟨by first | rfl | (simp [errW_none,errW_some] <;> rfl) | (simp [*,errW_none,errW_some] <;> rfl),by repeat (first | (with_reducible first | exact HB.out | apply below_alloc | apply pw_below_drewN | apply below_drew1 | refine below_set ?_ GE856.out) | exact HB.out)⟩
  ·rw [if_neg c6] at H;have c6b0 : (a0_0 == 2) = false:=beq_eq_false_iff_ne.mpr c6;have c6b1 : (a0_0 != 2) = true:=bne_iff_ne.mpr c6;obtain rfl:=Option.some.inj H;go_enter Try.func81,Try.ntmps81
   go_wp2_with (first | ((with_reducible refine gate_dst (N:=1) rfl ?_);refine box_event ?hg (N:=1) ?hd (cs:=#[.int .i64 a0_0,.int .i64 a0_1,.int .i64 a0_2,.int .i64 a0_3,.slice A0_4 l0_4.length c0_4,.slice A0_5 l0_5.length c0_5]) (t:=46) ?hr ?_;(case hd=>rfl);(case hg=>rfl);(case hr=>first | (go_simp;done) | (go_simp;rfl));intro gb856 hg w10 hbox hb;have n0_:=O (below_step (q0_ HB) hb);have n1_:=O (hbox);have n2_:=O ((by rw [hg];exact (below_size (q0_ HB)) : w.heap.size ≤ gb856));have n3_:=O ((by rw [hg];exact (below_size (q0_ HB)) : w.heap.size ≤ gb856));clear HB;have HB:=n0_;have BK856:=n1_;have GW856:=n2_;have GE856:=n3_;clear n0_ n1_ n2_ n3_ hb hbox hg;obtain ⟨hcz11_0,hcz11_1,hcz11_2,hcz11_3,hcz11_4,hcz11_5,hfz11_0,hfz11_1,hfz11_2,hfz11_3,hfz11_4,hfz11_5⟩:=bz6_ BK856))
   go_ret
   exact ⟨by first | rfl | (simp [errW_none,errW_some] <;> rfl) | (simp [*,errW_none,errW_some] <;> rfl),by repeat (first | (with_reducible first | exact HB.out | apply below_alloc | apply pw_below_drewN | apply below_drew1 | refine below_set ?_ GE856.out) | exact HB.out)⟩
end Go.Proofs.Ytphbdoljkpdflaa.P

namespace Go.Proofs.Ytphbdoljkpdflaa.P
open Go.RowKit
theorem drop_rd (l : List S46) {i : Nat} (h : i < l.length) : l.drop i = rd_T46 l (i : Int) :: l.drop (i + 1):=by
 rw [List.drop_eq_getElem_cons h]
 unfold rd_T46
 rw [Int.toNat_natCast,List.getD_eq_getElem?_getD,List.getElem?_eq_getElem h]
 rfl
end Go.Proofs.Ytphbdoljkpdflaa.P

namespace Go.Proofs.Ytphbdoljkpdflaa.P
open Go.RowKit Go.Proofs.YtphbdoljkpdflaaW.PrintWords Go.Proofs.YtphbdoljkpdflaaW.PrintLast Go.Proofs.YtphbdoljkpdflaaW.PrintMore
open Go.Proofs.YtphbdoljkpdflaaW.PrintWords renaming Aside0.mk → O, blk_frozen → Z, blk_cell → J, below_size → Y
attribute [local go_sem] max2_int min2_int max_two min_two max_three min_three max_four min_four
set_option linter.unusedVariables false
set_option linter.unusedSimpArgs false
def impl_Ins_moves.f (a0_0 : Int) (a0_1 : Int) (a0_2 : Int) (a0_3 : Int) (a1 : Int) : Option (Int × Bool):=if a0_0 = 8 then (some (a0_1,(a1 == (-1)))) else (if a0_0 = 9 then (some ((-1),(a1 == a0_1))) else (if a0_0 = 10 then (some (a1,(a1 != (-1)))) else (if a0_0 = 13 then (some (a1,(a1 == (-1)))) else (some (a1,true)))))
set_option maxHeartbeats 8000000 in
set_option maxRecDepth 100000 in
theorem impl_Ins_moves.calls (a0_0 : Int) (a0_1 : Int) (a0_2 : Int) (a0_3 : Int) (a1 : Int) (r1 : Int) (r2 : Bool) (w : World) (h : impl_Ins_moves.f a0_0 a0_1 a0_2 a0_3 a1 = some (r1,r2)) :
  Calls Try.prog 61 #[.agg #[.int .i64 a0_0,.int .i64 a0_1,.int .i64 a0_2,.int .i64 a0_3],.int .i64 a1] w fun e w'=>e = .returned (.tuple #[.int .i64 r1,.bool r2]) ∧ Below w.heap.size w w':=by
 have hu42:=Try.underlying42;have HB:=O (Below.refl w.heap.size w);have H : (if a0_0 = 8 then (some (a0_1,(a1 == (-1)))) else (if a0_0 = 9 then (some ((-1),(a1 == a0_1))) else (if a0_0 = 10 then (some (a1,(a1 != (-1)))) else (if a0_0 = 13 then (some (a1,(a1 == (-1)))) else (some (a1,true)))))) = some (r1,r2):=h;clear h
 by_cases c3 : a0_0 = 8
 ·rw [if_pos c3] at H;have c3b0 : (a0_0 == 8) = true:=beq_iff_eq.mpr c3;have c3b1 : (a0_0 != 8) = false:=bne_eq_false_iff_eq.mpr c3;clear c3;simp only [Option.some.injEq,Prod.mk.injEq] at H;obtain ⟨rfl,rfl⟩:=H;go_enter Try.func61,Try.ntmps61
  go_wp2_with (first | ((with_reducible refine gate_dst (N:=2) rfl ?_);refine box_event ?hg (N:=2) ?hd (cs:=#[.int .i64 a0_0,.int .i64 a0_1,.int .i64 a0_2,.int .i64 a0_3]) (t:=42) ?hr ?_;(case hd=>rfl);(case hg=>rfl);(case hr=>first | (go_simp;done) | (go_simp;rfl));intro gb171 hg w4 hbox hb;have n0_:=O (below_step (q0_ HB) hb);have n1_:=O (hbox);have n2_:=O ((by rw [hg];exact (Y (q0_ HB)) : w.heap.size ≤ gb171));have n3_:=O ((by rw [hg];exact (Y (q0_ HB)) : w.heap.size ≤ gb171));clear HB;have HB:=n0_;have BK171:=n1_;have GW171:=n2_;have GE171:=n3_;clear n0_ n1_ n2_ n3_ hb hbox hg;obtain ⟨hcz5_0,hcz5_1,hcz5_2,hcz5_3,hfz5_0,hfz5_1,hfz5_2,hfz5_3⟩:=bz4_ BK171))
  repeat (go_quiet (first | ((with_reducible refine gate_dst (N:=2) rfl ?_);refine box_event ?hg (N:=2) ?hd (cs:=#[.int .i64 a0_0,.int .i64 a0_1,.int .i64 a0_2,.int .i64 a0_3]) (t:=42) ?hr ?_;(case hd=>rfl);(case hg=>rfl);(case hr=>first | (go_simp;done) | (go_simp;rfl));intro gb171 hg w4 hbox hb;have n0_:=O (below_step (q0_ HB) hb);have n1_:=O (hbox);have n2_:=O ((by rw [hg];exact (Y (q0_ HB)) : w.heap.size ≤ gb171));have n3_:=O ((by rw [hg];exact (Y (q0_ HB)) : w.heap.size ≤ gb171));clear HB;have HB:=n0_;have BK171:=n1_;have GW171:=n2_;have GE171:=n3_;clear n0_ n1_ n2_ n3_ hb hbox hg;have hcz5_0 : w4.cell? ⟨gb171,0,none⟩ = some (.int .i64 a0_0):=(J BK171.out 0).trans rfl;have hcz5_1 : w4.cell? ⟨gb171,1,none⟩ = some (.int .i64 a0_1):=(J BK171.out 1).trans rfl;have hcz5_2 : w4.cell? ⟨gb171,2,none⟩ = some (.int .i64 a0_2):=(J BK171.out 2).trans rfl;have hcz5_3 : w4.cell? ⟨gb171,3,none⟩ = some (.int .i64 a0_3):=(J BK171.out 3).trans rfl;have hfz5_0:=Z BK171.out 0;have hfz5_1:=Z BK171.out 1;have hfz5_2:=Z BK171.out 2;have hfz5_3:=Z BK171.out 3));try go_wp2_with (first | ((with_reducible refine gate_dst (N:=2) rfl ?_);refine box_event ?hg (N:=2) ?hd (cs:=#[.int .i64 a0_0,.int .i64 a0_1,.int .i64 a0_2,.int .i64 a0_3]) (t:=42) ?hr ?_;(case hd=>rfl);(case hg=>rfl);(case hr=>first | (go_simp;done) | (go_simp;rfl));intro gb171 hg w4 hbox hb;have n0_:=O (below_step (q0_ HB) hb);have n1_:=O (hbox);have n2_:=O ((by rw [hg];exact (Y (q0_ HB)) : w.heap.size ≤ gb171));have n3_:=O ((by rw [hg];exact (Y (q0_ HB)) : w.heap.size ≤ gb171));clear HB;have HB:=n0_;have BK171:=n1_;have GW171:=n2_;have GE171:=n3_;clear n0_ n1_ n2_ n3_ hb hbox hg;have hcz5_0 : w4.cell? ⟨gb171,0,none⟩ = some (.int .i64 a0_0):=(J BK171.out 0).trans rfl;have hcz5_1 : w4.cell? ⟨gb171,1,none⟩ = some (.int .i64 a0_1):=(J BK171.out 1).trans rfl;have hcz5_2 : w4.cell? ⟨gb171,2,none⟩ = some (.int .i64 a0_2):=(J BK171.out 2).trans rfl;have hcz5_3 : w4.cell? ⟨gb171,3,none⟩ = some (.int .i64 a0_3):=(J BK171.out 3).trans rfl;have hfz5_0:=Z BK171.out 0;have hfz5_1:=Z BK171.out 1;have hfz5_2:=Z BK171.out 2;have hfz5_3:=Z BK171.out 3)))
  go_ret2
  exact ⟨by first | rfl | (simp [errW_none,errW_some] <;> rfl) | (simp [*,errW_none,errW_some] <;> rfl),by repeat (first | (with_reducible first | exact HB.out | apply below_alloc | apply pw_below_drewN | apply below_drew1 | refine below_set ?_ GE171.out) | exact HB.out)⟩
 ·rw [if_neg c3] at H;have c3b0 : (a0_0 == 8) = false:=beq_eq_false_iff_ne.mpr c3;have c3b1 : (a0_0 != 8) = true:=bne_iff_ne.mpr c3
  by_cases c6 : a0_0 = 9
  ·rw [if_pos c6] at H;have c6b0 : (a0_0 == 9) = true:=beq_iff_eq.mpr c6;have c6b1 : (a0_0 != 9) = false:=bne_eq_false_iff_eq.mpr c6;clear c6;simp only [Option.some.injEq,Prod.mk.injEq] at H;obtain ⟨rfl,rfl⟩:=H;go_enter Try.func61,Try.ntmps61
   go_wp2_with (first | ((with_reducible refine gate_dst (N:=2) rfl ?_);refine box_event ?hg (N:=2) ?hd (cs:=#[.int .i64 a0_0,.int .i64 a0_1,.int .i64 a0_2,.int .i64 a0_3]) (t:=42) ?hr ?_;(case hd=>rfl);(case hg=>rfl);(case hr=>first | (go_simp;done) | (go_simp;rfl));intro gb171 hg w7 hbox hb;have n0_:=O (below_step (q0_ HB) hb);have n1_:=O (hbox);have n2_:=O ((by rw [hg];exact (Y (q0_ HB)) : w.heap.size ≤ gb171));have n3_:=O ((by rw [hg];exact (Y (q0_ HB)) : w.heap.size ≤ gb171));clear HB;have HB:=n0_;have BK171:=n1_;have GW171:=n2_;have GE171:=n3_;clear n0_ n1_ n2_ n3_ hb hbox hg;obtain ⟨hcz8_0,hcz8_1,hcz8_2,hcz8_3,hfz8_0,hfz8_1,hfz8_2,hfz8_3⟩:=bz4_ BK171))
   repeat (go_quiet (first | ((with_reducible refine gate_dst (N:=2) rfl ?_);refine box_event ?hg (N:=2) ?hd (cs:=#[.int .i64 a0_0,.int .i64 a0_1,.int .i64 a0_2,.int .i64 a0_3]) (t:=42) ?hr ?_;(case hd=>rfl);(case hg=>rfl);(case hr=>first | (go_simp;done) | (go_simp;rfl));intro gb171 hg w7 hbox hb;have n0_:=O (below_step (q0_ HB) hb);have n1_:=O (hbox);have n2_:=O ((by rw [hg];exact (Y (q0_ HB)) : w.heap.size ≤ gb171));have n3_:=O ((by rw [hg];exact (Y (q0_ HB)) : w.heap.size ≤ gb171));clear HB;have HB:=n0_;have BK171:=n1_;have GW171:=n2_;have GE171:=n3_;clear n0_ n1_ n2_ n3_ hb hbox hg;have hcz8_0 : w7.cell? ⟨gb171,0,none⟩ = some (.int .i64 a0_0):=(J BK171.out 0).trans rfl;have hcz8_1 : w7.cell? ⟨gb171,1,none⟩ = some (.int .i64 a0_1):=(J BK171.out 1).trans rfl;have hcz8_2 : w7.cell? ⟨gb171,2,none⟩ = some (.int .i64 a0_2):=(J BK171.out 2).trans rfl;have hcz8_3 : w7.cell? ⟨gb171,3,none⟩ = some (.int .i64 a0_3):=(J BK171.out 3).trans rfl;have hfz8_0:=Z BK171.out 0;have hfz8_1:=Z BK171.out 1;have hfz8_2:=Z BK171.out 2;have hfz8_3:=Z BK171.out 3));try go_wp2_with (first | ((with_reducible refine gate_dst (N:=2) rfl ?_);refine box_event ?hg (N:=2) ?hd (cs:=#[.int .i64 a0_0,.int .i64 a0_1,.int .i64 a0_2,.int .i64 a0_3]) (t:=42) ?hr ?_;(case hd=>rfl);(case hg=>rfl);(case hr=>first | (go_simp;done) | (go_simp;rfl));intro gb171 hg w7 hbox hb;have n0_:=O (below_step (q0_ HB) hb);have n1_:=O (hbox);have n2_:=O ((by rw [hg];exact (Y (q0_ HB)) : w.heap.size ≤ gb171));have n3_:=O ((by rw [hg];exact (Y (q0_ HB)) : w.heap.size ≤ gb171));clear HB;have HB:=n0_;have BK171:=n1_;have GW171:=n2_;have GE171:=n3_;clear n0_ n1_ n2_ n3_ hb hbox hg;have hcz8_0 : w7.cell? ⟨gb171,0,none⟩ = some (.int .i64 a0_0):=(J BK171.out 0).trans rfl;have hcz8_1 : w7.cell? ⟨gb171,1,none⟩ = some (.int .i64 a0_1):=(J BK171.out 1).trans rfl;have hcz8_2 : w7.cell? ⟨gb171,2,none⟩ = some (.int .i64 a0_2):=(J BK171.out 2).trans rfl;have hcz8_3 : w7.cell? ⟨gb171,3,none⟩ = some (.int .i64 a0_3):=(J BK171.out 3).trans rfl;have hfz8_0:=Z BK171.out 0;have hfz8_1:=Z BK171.out 1;have hfz8_2:=Z BK171.out 2;have hfz8_3:=Z BK171.out 3)))
   go_ret2
   exact ⟨by first | rfl | (simp [errW_none,errW_some] <;> rfl) | (simp [*,errW_none,errW_some] <;> rfl),by repeat (first | (with_reducible first | exact HB.out | apply below_alloc | apply pw_below_drewN | apply below_drew1 | refine below_set ?_ GE171.out) | exact HB.out)⟩
  ·rw [if_neg c6] at H;have c6b0 : (a0_0 == 9) = false:=beq_eq_false_iff_ne.mpr c6;have c6b1 : (a0_0 != 9) = true:=bne_iff_ne.mpr c6
   by_cases c9 : a0_0 = 10
   ·rw [if_pos c9] at H;have c9b0 : (a0_0 == 10) = true:=beq_iff_eq.mpr c9;have c9b1 : (a0_0 != 10) = false:=bne_eq_false_iff_eq.mpr c9;clear c9;simp only [Option.some.injEq,Prod.mk.injEq] at H;obtain ⟨rfl,rfl⟩:=H;go_enter Try.func61,Try.ntmps61
    go_wp2_with (first | ((with_reducible refine gate_dst (N:=2) rfl ?_);refine box_event ?hg (N:=2) ?hd (cs:=#[.int .i64 a0_0,.int .i64 a0_1,.int .i64 a0_2,.int .i64 a0_3]) (t:=42) ?hr ?_;(case hd=>rfl);(case hg=>rfl);(case hr=>first | (go_simp;done) | (go_simp;rfl));intro gb171 hg w10 hbox hb;have n0_:=O (below_step (q0_ HB) hb);have n1_:=O (hbox);have n2_:=O ((by rw [hg];exact (Y (q0_ HB)) : w.heap.size ≤ gb171));have n3_:=O ((by rw [hg];exact (Y (q0_ HB)) : w.heap.size ≤ gb171));clear HB;have HB:=n0_;have BK171:=n1_;have GW171:=n2_;have GE171:=n3_;clear n0_ n1_ n2_ n3_ hb hbox hg;obtain ⟨hcz11_0,hcz11_1,hcz11_2,hcz11_3,hfz11_0,hfz11_1,hfz11_2,hfz11_3⟩:=bz4_ BK171))
    repeat (go_quiet (first | ((with_reducible refine gate_dst (N:=2) rfl ?_);refine box_event ?hg (N:=2) ?hd (cs:=#[.int .i64 a0_0,.int .i64 a0_1,.int .i64 a0_2,.int .i64 a0_3]) (t:=42) ?hr ?_;(case hd=>rfl);(case hg=>rfl);(case hr=>first | (go_simp;done) | (go_simp;rfl));intro gb171 hg w10 hbox hb;have n0_:=O (below_step (q0_ HB) hb);have n1_:=O (hbox);have n2_:=O ((by rw [hg];exact (Y (q0_ HB)) : w.heap.size ≤ gb171));have n3_:=O ((by rw [hg];exact (Y (q0_ HB)) : w.heap.size ≤ gb171));clear HB;have HB:=n0_;have BK171:=n1_;have GW171:=n2_;have GE171:=n3_;clear n0_ n1_ n2_ n3_ hb hbox hg;have hcz11_0 : w10.cell? ⟨gb171,0,none⟩ = some (.int .i64 a0_0):=(J BK171.out 0).trans rfl;have hcz11_1 : w10.cell? ⟨gb171,1,none⟩ = some (.int .i64 a0_1):=(J BK171.out 1).trans rfl;have hcz11_2 : w10.cell? ⟨gb171,2,none⟩ = some (.int .i64 a0_2):=(J BK171.out 2).trans rfl;have hcz11_3 : w10.cell? ⟨gb171,3,none⟩ = some (.int .i64 a0_3):=(J BK171.out 3).trans rfl;have hfz11_0:=Z BK171.out 0;have hfz11_1:=Z BK171.out 1;have hfz11_2:=Z BK171.out 2;have hfz11_3:=Z BK171.out 3));try go_wp2_with (first | ((with_reducible refine gate_dst (N:=2) rfl ?_);refine box_event ?hg (N:=2) ?hd (cs:=#[.int .i64 a0_0,.int .i64 a0_1,.int .i64 a0_2,.int .i64 a0_3]) (t:=42) ?hr ?_;(case hd=>rfl);(case hg=>rfl);(case hr=>first | (go_simp;done) | (go_simp;rfl));intro gb171 hg w10 hbox hb;have n0_:=O (below_step (q0_ HB) hb);have n1_:=O (hbox);have n2_:=O ((by rw [hg];exact (Y (q0_ HB)) : w.heap.size ≤ gb171));have n3_:=O ((by rw [hg];exact (Y (q0_ HB)) : w.heap.size ≤ gb171));clear HB;have HB:=n0_;have BK171:=n1_;have GW171:=n2_;have GE171:=n3_;clear n0_ n1_ n2_ n3_ hb hbox hg;have hcz11_0 : w10.cell? ⟨gb171,0,none⟩ = some (.int .i64 a0_0):=(J BK171.out 0).trans rfl;have hcz11_1 : w10.cell? ⟨gb171,1,none⟩ = some (.int .i64 a0_1):=(J BK171.out 1).trans rfl;have hcz11_2 : w10.cell? ⟨gb171,2,none⟩ = some (.int .i64 a0_2):=(J BK171.out 2).trans rfl;have hcz11_3 : w10.cell? ⟨gb171,3,none⟩ = some (.int .i64 a0_3):=(J BK171.out 3).trans rfl;have hfz11_0:=Z BK171.out 0;have hfz11_1:=Z BK171.out 1;have hfz11_2:=Z BK171.out 2;have hfz11_3:=Z BK171.out 3)))
    go_ret2
    exact ⟨by first | rfl | (simp [errW_none,errW_some] <;> rfl) | (simp [*,errW_none,errW_some] <;> rfl),by repeat (first | (with_reducible first | exact HB.out | apply below_alloc | apply pw_below_drewN | apply below_drew1 | refine below_set ?_ GE171.out) | exact HB.out)⟩
   ·rw [if_neg c9] at H;have c9b0 : (a0_0 == 10) = false:=beq_eq_false_iff_ne.mpr c9;have c9b1 : (a0_0 != 10) = true:=bne_iff_ne.mpr c9
    by_cases c12 : a0_0 = 13
    ·rw [if_pos c12] at H;have c12b0 : (a0_0 == 13) = true:=beq_iff_eq.mpr c12;have c12b1 : (a0_0 != 13) = false:=bne_eq_false_iff_eq.mpr c12;clear c12;simp only [Option.some.injEq,Prod.mk.injEq] at H;obtain ⟨rfl,rfl⟩:=H;go_enter Try.func61,Try.ntmps61
     go_wp2_with (first | ((with_reducible refine gate_dst (N:=2) rfl ?_);refine box_event ?hg (N:=2) ?hd (cs:=#[.int .i64 a0_0,.int .i64 a0_1,.int .i64 a0_2,.int .i64 a0_3]) (t:=42) ?hr ?_;(case hd=>rfl);(case hg=>rfl);(case hr=>first | (go_simp;done) | (go_simp;rfl));intro gb171 hg w13 hbox hb;have n0_:=O (below_step (q0_ HB) hb);have n1_:=O (hbox);have n2_:=O ((by rw [hg];exact (Y (q0_ HB)) : w.heap.size ≤ gb171));have n3_:=O ((by rw [hg];exact (Y (q0_ HB)) : w.heap.size ≤ gb171));clear HB;have HB:=n0_;have BK171:=n1_;have GW171:=n2_;have GE171:=n3_;clear n0_ n1_ n2_ n3_ hb hbox hg;obtain ⟨hcz14_0,hcz14_1,hcz14_2,hcz14_3,hfz14_0,hfz14_1,hfz14_2,hfz14_3⟩:=bz4_ BK171))
     repeat (go_quiet (first | ((with_reducible refine gate_dst (N:=2) rfl ?_);refine box_event ?hg (N:=2) ?hd (cs:=#[.int .i64 a0_0,.int .i64 a0_1,.int .i64 a0_2,.int .i64 a0_3]) (t:=42) ?hr ?_;(case hd=>rfl);(case hg=>rfl);(case hr=>first | (go_simp;done) | (go_simp;rfl));intro gb171 hg w13 hbox hb;have n0_:=O (below_step (q0_ HB) hb);have n1_:=O (hbox);have n2_:=O ((by rw [hg];exact (Y (q0_ HB)) : w.heap.size ≤ gb171));have n3_:=O ((by rw [hg];exact (Y (q0_ HB)) : w.heap.size ≤ gb171));clear HB;have HB:=n0_;have BK171:=n1_;have GW171:=n2_;have GE171:=n3_;clear n0_ n1_ n2_ n3_ hb hbox hg;have hcz14_0 : w13.cell? ⟨gb171,0,none⟩ = some (.int .i64 a0_0):=(J BK171.out 0).trans rfl;have hcz14_1 : w13.cell? ⟨gb171,1,none⟩ = some (.int .i64 a0_1):=(J BK171.out 1).trans rfl;have hcz14_2 : w13.cell? ⟨gb171,2,none⟩ = some (.int .i64 a0_2):=(J BK171.out 2).trans rfl;have hcz14_3 : w13.cell? ⟨gb171,3,none⟩ = some (.int .i64 a0_3):=(J BK171.out 3).trans rfl;have hfz14_0:=Z BK171.out 0;have hfz14_1:=Z BK171.out 1;have hfz14_2:=Z BK171.out 2;have hfz14_3:=Z BK171.out 3));try go_wp2_with (first | ((with_reducible refine gate_dst (N:=2) rfl ?_);refine box_event ?hg (N:=2) ?hd (cs:=#[.int .i64 a0_0,.int .i64 a0_1,.int .i64 a0_2,.int .i64 a0_3]) (t:=42) ?hr ?_;(case hd=>rfl);(case hg=>rfl);(case hr=>first | (go_simp;done) | (go_simp;rfl));intro gb171 hg w13 hbox hb;have n0_:=O (below_step (q0_ HB) hb);have n1_:=O (hbox);have n2_:=O ((by rw [hg];exact (Y (q0_ HB)) : w.heap.size ≤ gb171));have n3_:=O ((by rw [hg];exact (Y (q0_ HB)) : w.heap.size ≤ gb171));clear HB;have HB:=n0_;have BK171:=n1_;have GW171:=n2_;have GE171:=n3_;clear n0_ n1_ n2_ n3_ hb hbox hg;have hcz14_0 : w13.cell? ⟨gb171,0,none⟩ = some (.int .i64 a0_0):=(J BK171.out 0).trans rfl;have hcz14_1 : w13.cell? ⟨gb171,1,none⟩ = some (.int .i64 a0_1):=(J BK171.out 1).trans rfl;have hcz14_2 : w13.cell? ⟨gb171,2,none⟩ = some (.int .i64 a0_2):=(J BK171.out 2).trans rfl;have hcz14_3 : w13.cell? ⟨gb171,3,none⟩ = some (.int .i64 a0_3):=(J BK171.out 3).trans rfl;have hfz14_0:=Z BK171.out 0;have hfz14_1:=Z BK171.out 1;have hfz14_2:=Z BK171.out 2;have hfz14_3:=Z BK171.out 3)))
     go_ret2
     exact ⟨by first | rfl | (simp [errW_none,errW_some] <;> rfl) | (simp [*,errW_none,errW_some] <;> rfl),by repeat (first | (with_reducible first | exact HB.out | apply below_alloc | apply pw_below_drewN | apply below_drew1 | refine below_set ?_ GE171.out) | exact HB.out)⟩
    ·rw [if_neg c12] at H;have c12b0 : (a0_0 == 13) = false:=beq_eq_false_iff_ne.mpr c12;have c12b1 : (a0_0 != 13) = true:=bne_iff_ne.mpr c12;simp only [Option.some.injEq,Prod.mk.injEq] at H;obtain ⟨rfl,rfl⟩:=H;go_enter Try.func61,Try.ntmps61
     go_wp2_with (first | ((with_reducible refine gate_dst (N:=2) rfl ?_);refine box_event ?hg (N:=2) ?hd (cs:=#[.int .i64 a0_0,.int .i64 a0_1,.int .i64 a0_2,.int .i64 a0_3]) (t:=42) ?hr ?_;(case hd=>rfl);(case hg=>rfl);(case hr=>first | (go_simp;done) | (go_simp;rfl));intro gb171 hg w15 hbox hb;have n0_:=O (below_step (q0_ HB) hb);have n1_:=O (hbox);have n2_:=O ((by rw [hg];exact (Y (q0_ HB)) : w.heap.size ≤ gb171));have n3_:=O ((by rw [hg];exact (Y (q0_ HB)) : w.heap.size ≤ gb171));clear HB;have HB:=n0_;have BK171:=n1_;have GW171:=n2_;have GE171:=n3_;clear n0_ n1_ n2_ n3_ hb hbox hg;obtain ⟨hcz16_0,hcz16_1,hcz16_2,hcz16_3,hfz16_0,hfz16_1,hfz16_2,hfz16_3⟩:=bz4_ BK171))
     repeat (go_quiet (first | ((with_reducible refine gate_dst (N:=2) rfl ?_);refine box_event ?hg (N:=2) ?hd (cs:=#[.int .i64 a0_0,.int .i64 a0_1,.int .i64 a0_2,.int .i64 a0_3]) (t:=42) ?hr ?_;(case hd=>rfl);(case hg=>rfl);(case hr=>first | (go_simp;done) | (go_simp;rfl));intro gb171 hg w15 hbox hb;have n0_:=O (below_step (q0_ HB) hb);have n1_:=O (hbox);have n2_:=O ((by rw [hg];exact (Y (q0_ HB)) : w.heap.size ≤ gb171));have n3_:=O ((by rw [hg];exact (Y (q0_ HB)) : w.heap.size ≤ gb171));clear HB;have HB:=n0_;have BK171:=n1_;have GW171:=n2_;have GE171:=n3_;clear n0_ n1_ n2_ n3_ hb hbox hg;have hcz16_0 : w15.cell? ⟨gb171,0,none⟩ = some (.int .i64 a0_0):=(J BK171.out 0).trans rfl;have hcz16_1 : w15.cell? ⟨gb171,1,none⟩ = some (.int .i64 a0_1):=(J BK171.out 1).trans rfl;have hcz16_2 : w15.cell? ⟨gb171,2,none⟩ = some (.int .i64 a0_2):=(J BK171.out 2).trans rfl;have hcz16_3 : w15.cell? ⟨gb171,3,none⟩ = some (.int .i64 a0_3):=(J BK171.out 3).trans rfl;have hfz16_0:=Z BK171.out 0;have hfz16_1:=Z BK171.out 1;have hfz16_2:=Z BK171.out 2;have hfz16_3:=Z BK171.out 3));try go_wp2_with (first | ((with_reducible refine gate_dst (N:=2) rfl ?_);refine box_event ?hg (N:=2) ?hd (cs:=#[.int .i64 a0_0,.int .i64 a0_1,.int .i64 a0_2,.int .i64 a0_3]) (t:=42) ?hr ?_;(case hd=>rfl);(case hg=>rfl);(case hr=>first | (go_simp;done) | (go_simp;rfl));intro gb171 hg w15 hbox hb;have n0_:=O (below_step (q0_ HB) hb);have n1_:=O (hbox);have n2_:=O ((by rw [hg];exact (Y (q0_ HB)) : w.heap.size ≤ gb171));have n3_:=O ((by rw [hg];exact (Y (q0_ HB)) : w.heap.size ≤ gb171));clear HB;have HB:=n0_;have BK171:=n1_;have GW171:=n2_;have GE171:=n3_;clear n0_ n1_ n2_ n3_ hb hbox hg;have hcz16_0 : w15.cell? ⟨gb171,0,none⟩ = some (.int .i64 a0_0):=(J BK171.out 0).trans rfl;have hcz16_1 : w15.cell? ⟨gb171,1,none⟩ = some (.int .i64 a0_1):=(J BK171.out 1).trans rfl;have hcz16_2 : w15.cell? ⟨gb171,2,none⟩ = some (.int .i64 a0_2):=(J BK171.out 2).trans rfl;have hcz16_3 : w15.cell? ⟨gb171,3,none⟩ = some (.int .i64 a0_3):=(J BK171.out 3).trans rfl;have hfz16_0:=Z BK171.out 0;have hfz16_1:=Z BK171.out 1;have hfz16_2:=Z BK171.out 2;have hfz16_3:=Z BK171.out 3)))
     go_ret2
     exact ⟨by first | rfl | (simp [errW_none,errW_some] <;> rfl) | (simp [*,errW_none,errW_some] <;> rfl),by repeat (first | (with_reducible first | exact HB.out | apply below_alloc | apply pw_below_drewN | apply below_drew1 | refine below_set ?_ GE171.out) | exact HB.out)⟩
end Go.Proofs.Ytphbdoljkpdflaa.P

namespace Go.Proofs.Ytphbdoljkpdflaa.P
open Go.RowKit Go.Proofs.YtphbdoljkpdflaaW.PrintWords Go.Proofs.YtphbdoljkpdflaaW.PrintLast Go.Proofs.YtphbdoljkpdflaaW.PrintMore
open Go.Proofs.YtphbdoljkpdflaaW.PrintWords renaming Aside0.mk → O
attribute [local go_sem] max2_int min2_int max_two min_two max_three min_three max_four min_four
set_option linter.unusedVariables false
set_option linter.unusedSimpArgs false
def impl_Ins_successors.f (a0_0 : Int) (a0_1 : Int) (a0_2 : Int) (a0_3 : Int) (a1 : Int) : Option (List Int):=if a0_0 = 13 then (some ([] : List Int)) else (if a0_0 = 7 then (some (([a0_3] : List Int))) else (if a0_0 = 6 then (some (([wrap64 (a1 + 1),a0_3] : List Int))) else (some (([wrap64 (a1 + 1)] : List Int)))))
set_option maxHeartbeats 8000000 in
set_option maxRecDepth 100000 in
theorem impl_Ins_successors.calls (a0_0 : Int) (a0_1 : Int) (a0_2 : Int) (a0_3 : Int) (a1 : Int) (r : List Int) (w : World) (h : impl_Ins_successors.f a0_0 a0_1 a0_2 a0_3 a1 = some r) :
  Calls Try.prog 62 #[.agg #[.int .i64 a0_0,.int .i64 a0_1,.int .i64 a0_2,.int .i64 a0_3],.int .i64 a1] w fun e w'=>∃ v0_ : Value,e = .returned (v0_) ∧ Kd.R (Kd.int .i64) 3 w' w.heap.size (fun _=>True) v0_ r ∧ Below w.heap.size w w':=by
 have hu42:=Try.underlying42;have HB:=O (Below.refl w.heap.size w);have H : (if a0_0 = 13 then (some ([] : List Int)) else (if a0_0 = 7 then (some (([a0_3] : List Int))) else (if a0_0 = 6 then (some (([wrap64 (a1 + 1),a0_3] : List Int))) else (some (([wrap64 (a1 + 1)] : List Int)))))) = some r:=h;clear h
 by_cases c3 : a0_0 = 13
 ·rw [if_pos c3] at H;have c3b0 : (a0_0 == 13) = true:=beq_iff_eq.mpr c3;have c3b1 : (a0_0 != 13) = false:=bne_eq_false_iff_eq.mpr c3;clear c3;obtain rfl:=Option.some.inj H;go_enter Try.func62,Try.ntmps62
  go_wp2_with (first | ((with_reducible refine gate_dst (N:=2) rfl ?_);refine box_event ?hg (N:=2) ?hd (cs:=#[.int .i64 a0_0,.int .i64 a0_1,.int .i64 a0_2,.int .i64 a0_3]) (t:=42) ?hr ?_;(case hd=>rfl);(case hg=>rfl);(case hr=>first | (go_simp;done) | (go_simp;rfl));intro gb172 hg w4 hbox hb;have n0_:=O (below_step (q0_ HB) hb);have n1_:=O (hbox);have n2_:=O ((by rw [hg];exact (below_size (q0_ HB)) : w.heap.size ≤ gb172));have n3_:=O ((by rw [hg];exact (below_size (q0_ HB)) : w.heap.size ≤ gb172));clear HB;have HB:=n0_;have BK172:=n1_;have GW172:=n2_;have GE172:=n3_;clear n0_ n1_ n2_ n3_ hb hbox hg;obtain ⟨hcz5_0,hcz5_1,hcz5_2,hcz5_3,hfz5_0,hfz5_1,hfz5_2,hfz5_3⟩:=bz4_ BK172))
  go_ret
  exact ⟨_,by first | rfl | (simp [errW_none,errW_some] <;> rfl) | (simp [*,errW_none,errW_some] <;> rfl),by first | exact Kd.R_nil _ _ _ _ _ | exact Kd.N_nil _ _ _ _ _ | exact Kd.V_nil _ _ _ _ _ | exact Kd.Q_nil _ _ _ _ _ | exact Kd.S_nil _ _ _ _ _,by repeat (first | (with_reducible first | exact HB.out | apply below_alloc | apply pw_below_drewN | apply below_drew1 | refine below_set ?_ GE172.out) | exact HB.out)⟩
 ·rw [if_neg c3] at H;have c3b0 : (a0_0 == 13) = false:=beq_eq_false_iff_ne.mpr c3;have c3b1 : (a0_0 != 13) = true:=bne_iff_ne.mpr c3
  by_cases c6 : a0_0 = 7
  ·rw [if_pos c6] at H;have c6b0 : (a0_0 == 7) = true:=beq_iff_eq.mpr c6;have c6b1 : (a0_0 != 7) = false:=bne_eq_false_iff_eq.mpr c6;clear c6;obtain ⟨y173,hy173⟩ : ∃ y_ : List Int,y_ = (([a0_3] : List Int)):=⟨_,rfl⟩
   replace H : (some y173) = some r:=by first | (rw [hy173];with_reducible exact H) | (have H2_:=(Option.bind_some _ _).symm.trans H;rw [hy173];with_reducible exact H2_) | (have H2_:=(Option.bind_some _ _).symm.trans H;with_reducible exact H2_) | with_reducible exact H | (rw [hy173];exact H) | exact H
   have Ny173:=O hy173;clear hy173;obtain rfl:=Option.some.inj H;go_enter Try.func62,Try.ntmps62
   go_wp2_with (first | ((with_reducible refine gate_dst (N:=2) rfl ?_);refine box_event ?hg (N:=2) ?hd (cs:=#[.int .i64 a0_0,.int .i64 a0_1,.int .i64 a0_2,.int .i64 a0_3]) (t:=42) ?hr ?_;(case hd=>rfl);(case hg=>rfl);(case hr=>first | (go_simp;done) | (go_simp;rfl));intro gb172 hg w7 hbox hb;have n0_:=O (below_step (q0_ HB) hb);have n1_:=O (hbox);have n2_:=O ((by rw [hg];exact (below_size (q0_ HB)) : w.heap.size ≤ gb172));have n3_:=O ((by rw [hg];exact (below_size (q0_ HB)) : w.heap.size ≤ gb172));clear HB;have HB:=n0_;have BK172:=n1_;have GW172:=n2_;have GE172:=n3_;clear n0_ n1_ n2_ n3_ hb hbox hg;obtain ⟨hcz8_0,hcz8_1,hcz8_2,hcz8_3,hfz8_0,hfz8_1,hfz8_2,hfz8_3⟩:=bz4_ BK172) | ((with_reducible refine gate_dst (N:=13) rfl ?_);refine Kd.R_lit (Kd.int .i64) _ 3 ?hg (N:=13) ?hd (xs:=([a0_3] : List Int)) (inner:=[.int .i64 a0_3]) (ok:=fun _=>True) (okp:=fun _=>True) ?hr ?hp (fun _ hk=>hk) trivial (Below.refl _ _) (Nat.le_refl _) (by simp) ?_;(case hd=>rfl);(case hg=>rfl);(case hr=>first | (go_simp;done) | (go_simp;rfl));(case hp=>exact (Reps.one (show Kd.M (Kd.int .i64) _ _ _ a0_3 [.int .i64 a0_3] from rfl) (Reps.none _ _)));intro v174 w9 ho10 hb hg_ hnew_;clear hg_ hnew_;(first | rw [← Ny173.out] at ho10 | (simp only [Int.reduceToNat] at ho10;rw [← Ny173.out] at ho10));have n0_:=O (Kd.R_lower ho10 (below_size (q2_ HB GE172)));have n1_:=O (blk_below (g:=gb172) (o:=.cells #[.int .i64 a0_0,.int .i64 a0_1,.int .i64 a0_2,.int .i64 a0_3] 42 (0,0)) (q1_ BK172) hb);have n2_:=O (below_step (q2_ HB GE172) hb);clear BK172 HB;have HO175:=n0_;have BK172:=n1_;have HB:=n2_;clear n0_ n1_ n2_ hb ho10))
   go_ret
   exact ⟨_,by first | rfl | (simp [errW_none,errW_some] <;> rfl) | (simp [*,errW_none,errW_some] <;> rfl),by (with_reducible repeat (first | apply Kd.R_alloc | apply Kd.R_drewN | apply Kd.R_drew));exact HO175.out,by repeat (first | (with_reducible first | exact HB.out | apply below_alloc | apply pw_below_drewN | apply below_drew1 | refine below_set ?_ GE172.out) | exact HB.out)⟩
  ·rw [if_neg c6] at H;have c6b0 : (a0_0 == 7) = false:=beq_eq_false_iff_ne.mpr c6;have c6b1 : (a0_0 != 7) = true:=bne_iff_ne.mpr c6
   by_cases c11 : a0_0 = 6
   ·rw [if_pos c11] at H;have c11b0 : (a0_0 == 6) = true:=beq_iff_eq.mpr c11;have c11b1 : (a0_0 != 6) = false:=bne_eq_false_iff_eq.mpr c11;clear c11;obtain ⟨y176,hy176⟩ : ∃ y_ : List Int,y_ = (([wrap64 (a1 + 1),a0_3] : List Int)):=⟨_,rfl⟩
    replace H : (some y176) = some r:=by first | (rw [hy176];with_reducible exact H) | (have H2_:=(Option.bind_some _ _).symm.trans H;rw [hy176];with_reducible exact H2_) | (have H2_:=(Option.bind_some _ _).symm.trans H;with_reducible exact H2_) | with_reducible exact H | (rw [hy176];exact H) | exact H
    have Ny176:=O hy176;clear hy176;obtain rfl:=Option.some.inj H;go_enter Try.func62,Try.ntmps62
    go_wp2_with (first | ((with_reducible refine gate_dst (N:=2) rfl ?_);refine box_event ?hg (N:=2) ?hd (cs:=#[.int .i64 a0_0,.int .i64 a0_1,.int .i64 a0_2,.int .i64 a0_3]) (t:=42) ?hr ?_;(case hd=>rfl);(case hg=>rfl);(case hr=>first | (go_simp;done) | (go_simp;rfl));intro gb172 hg w12 hbox hb;have n0_:=O (below_step (q0_ HB) hb);have n1_:=O (hbox);have n2_:=O ((by rw [hg];exact (below_size (q0_ HB)) : w.heap.size ≤ gb172));have n3_:=O ((by rw [hg];exact (below_size (q0_ HB)) : w.heap.size ≤ gb172));clear HB;have HB:=n0_;have BK172:=n1_;have GW172:=n2_;have GE172:=n3_;clear n0_ n1_ n2_ n3_ hb hbox hg;obtain ⟨hcz13_0,hcz13_1,hcz13_2,hcz13_3,hfz13_0,hfz13_1,hfz13_2,hfz13_3⟩:=bz4_ BK172) | ((with_reducible refine gate_dst (N:=20) rfl ?_);refine Kd.R_lit (Kd.int .i64) _ 3 ?hg (N:=20) ?hd (xs:=([wrap64 (a1 + 1),a0_3] : List Int)) (inner:=[.int .i64 (wrap64 (a1 + 1)),.int .i64 a0_3]) (ok:=fun _=>True) (okp:=fun _=>True) ?hr ?hp (fun _ hk=>hk) trivial (Below.refl _ _) (Nat.le_refl _) (by simp) ?_;(case hd=>rfl);(case hg=>rfl);(case hr=>first | (go_simp;done) | (go_simp;rfl));(case hp=>exact (Reps.one (show Kd.M (Kd.int .i64) _ _ _ (wrap64 (a1 + 1)) [.int .i64 (wrap64 (a1 + 1))] from rfl) (Reps.one (show Kd.M (Kd.int .i64) _ _ _ a0_3 [.int .i64 a0_3] from rfl) (Reps.none _ _))));intro v177 w14 ho15 hb hg_ hnew_;clear hg_ hnew_;(first | rw [← Ny176.out] at ho15 | (simp only [Int.reduceToNat] at ho15;rw [← Ny176.out] at ho15));have n0_:=O (Kd.R_lower ho15 (below_size (q2_ HB GE172)));have n1_:=O (blk_below (g:=gb172) (o:=.cells #[.int .i64 a0_0,.int .i64 a0_1,.int .i64 a0_2,.int .i64 a0_3] 42 (0,0)) (q1_ BK172) hb);have n2_:=O (below_step (q2_ HB GE172) hb);clear BK172 HB;have HO178:=n0_;have BK172:=n1_;have HB:=n2_;clear n0_ n1_ n2_ hb ho15))
    go_ret
    exact ⟨_,by first | rfl | (simp [errW_none,errW_some] <;> rfl) | (simp [*,errW_none,errW_some] <;> rfl),by (with_reducible repeat (first | apply Kd.R_alloc | apply Kd.R_drewN | apply Kd.R_drew));exact HO178.out,by repeat (first | (with_reducible first | exact HB.out | apply below_alloc | apply pw_below_drewN | apply below_drew1 | refine below_set ?_ GE172.out) | exact HB.out)⟩
   ·rw [if_neg c11] at H;have c11b0 : (a0_0 == 6) = false:=beq_eq_false_iff_ne.mpr c11;have c11b1 : (a0_0 != 6) = true:=bne_iff_ne.mpr c11;obtain ⟨y179,hy179⟩ : ∃ y_ : List Int,y_ = (([wrap64 (a1 + 1)] : List Int)):=⟨_,rfl⟩
    replace H : (some y179) = some r:=by first | (rw [hy179];with_reducible exact H) | (have H2_:=(Option.bind_some _ _).symm.trans H;rw [hy179];with_reducible exact H2_) | (have H2_:=(Option.bind_some _ _).symm.trans H;with_reducible exact H2_) | with_reducible exact H | (rw [hy179];exact H) | exact H
    have Ny179:=O hy179;clear hy179;obtain rfl:=Option.some.inj H;go_enter Try.func62,Try.ntmps62
    go_wp2_with (first | ((with_reducible refine gate_dst (N:=2) rfl ?_);refine box_event ?hg (N:=2) ?hd (cs:=#[.int .i64 a0_0,.int .i64 a0_1,.int .i64 a0_2,.int .i64 a0_3]) (t:=42) ?hr ?_;(case hd=>rfl);(case hg=>rfl);(case hr=>first | (go_simp;done) | (go_simp;rfl));intro gb172 hg w16 hbox hb;have n0_:=O (below_step (q0_ HB) hb);have n1_:=O (hbox);have n2_:=O ((by rw [hg];exact (below_size (q0_ HB)) : w.heap.size ≤ gb172));have n3_:=O ((by rw [hg];exact (below_size (q0_ HB)) : w.heap.size ≤ gb172));clear HB;have HB:=n0_;have BK172:=n1_;have GW172:=n2_;have GE172:=n3_;clear n0_ n1_ n2_ n3_ hb hbox hg;obtain ⟨hcz17_0,hcz17_1,hcz17_2,hcz17_3,hfz17_0,hfz17_1,hfz17_2,hfz17_3⟩:=bz4_ BK172) | ((with_reducible refine gate_dst (N:=23) rfl ?_);refine Kd.R_lit (Kd.int .i64) _ 3 ?hg (N:=23) ?hd (xs:=([wrap64 (a1 + 1)] : List Int)) (inner:=[.int .i64 (wrap64 (a1 + 1))]) (ok:=fun _=>True) (okp:=fun _=>True) ?hr ?hp (fun _ hk=>hk) trivial (Below.refl _ _) (Nat.le_refl _) (by simp) ?_;(case hd=>rfl);(case hg=>rfl);(case hr=>first | (go_simp;done) | (go_simp;rfl));(case hp=>exact (Reps.one (show Kd.M (Kd.int .i64) _ _ _ (wrap64 (a1 + 1)) [.int .i64 (wrap64 (a1 + 1))] from rfl) (Reps.none _ _)));intro v180 w18 ho19 hb hg_ hnew_;clear hg_ hnew_;(first | rw [← Ny179.out] at ho19 | (simp only [Int.reduceToNat] at ho19;rw [← Ny179.out] at ho19));have n0_:=O (Kd.R_lower ho19 (below_size (q2_ HB GE172)));have n1_:=O (blk_below (g:=gb172) (o:=.cells #[.int .i64 a0_0,.int .i64 a0_1,.int .i64 a0_2,.int .i64 a0_3] 42 (0,0)) (q1_ BK172) hb);have n2_:=O (below_step (q2_ HB GE172) hb);clear BK172 HB;have HO181:=n0_;have BK172:=n1_;have HB:=n2_;clear n0_ n1_ n2_ hb ho19))
    go_ret
    exact ⟨_,by first | rfl | (simp [errW_none,errW_some] <;> rfl) | (simp [*,errW_none,errW_some] <;> rfl),by (with_reducible repeat (first | apply Kd.R_alloc | apply Kd.R_drewN | apply Kd.R_drew));exact HO181.out,by repeat (first | (with_reducible first | exact HB.out | apply below_alloc | apply pw_below_drewN | apply below_drew1 | refine below_set ?_ GE172.out) | exact HB.out)⟩
end Go.Proofs.Ytphbdoljkpdflaa.P

namespace Go.Proofs.Ytphbdoljkpdflaa.P
open Go.RowKit Go.Proofs.YtphbdoljkpdflaaW.PrintWords Go.Proofs.YtphbdoljkpdflaaW.PrintLast Go.Proofs.YtphbdoljkpdflaaW.PrintMore
attribute [local go_sem] max2_int min2_int max_two min_two max_three min_three max_four min_four
set_option linter.unusedVariables false
set_option linter.unusedSimpArgs false
def bits_Mul64.f (a0 : Int) (a1 : Int) : Option (Int × Int):=some (IntKind.u64.wrap ((IntKind.u64.wrap ((IntKind.u64.wrap ((a0 / 4294967296) * (a1 / 4294967296))) + ((IntKind.u64.wrap ((IntKind.u64.wrap ((a0 / 4294967296) * (Go.bits .and .u64 a1 4294967295))) + ((IntKind.u64.wrap ((Go.bits .and .u64 a0 4294967295) * (Go.bits .and .u64 a1 4294967295))) / 4294967296))) / 4294967296))) + ((IntKind.u64.wrap ((Go.bits .and .u64 (IntKind.u64.wrap ((IntKind.u64.wrap ((a0 / 4294967296) * (Go.bits .and .u64 a1 4294967295))) + ((IntKind.u64.wrap ((Go.bits .and .u64 a0 4294967295) * (Go.bits .and .u64 a1 4294967295))) / 4294967296))) 4294967295) + (IntKind.u64.wrap ((Go.bits .and .u64 a0 4294967295) * (a1 / 4294967296))))) / 4294967296)),IntKind.u64.wrap (a0 * a1))
set_option maxHeartbeats 8000000 in
set_option maxRecDepth 100000 in
theorem bits_Mul64.calls (a0 : Int) (a1 : Int) (r1 : Int) (r2 : Int) (w : World) (h : bits_Mul64.f a0 a1 = some (r1,r2)) :
  Calls Try.prog 84 #[.int .u64 a0,.int .u64 a1] w fun e w'=>e = .returned (.tuple #[.int .u64 r1,.int .u64 r2]) ∧ Drawn0 w w':=by
 have H : (some (IntKind.u64.wrap ((IntKind.u64.wrap ((IntKind.u64.wrap ((a0 / 4294967296) * (a1 / 4294967296))) + ((IntKind.u64.wrap ((IntKind.u64.wrap ((a0 / 4294967296) * (Go.bits .and .u64 a1 4294967295))) + ((IntKind.u64.wrap ((Go.bits .and .u64 a0 4294967295) * (Go.bits .and .u64 a1 4294967295))) / 4294967296))) / 4294967296))) + ((IntKind.u64.wrap ((Go.bits .and .u64 (IntKind.u64.wrap ((IntKind.u64.wrap ((a0 / 4294967296) * (Go.bits .and .u64 a1 4294967295))) + ((IntKind.u64.wrap ((Go.bits .and .u64 a0 4294967295) * (Go.bits .and .u64 a1 4294967295))) / 4294967296))) 4294967295) + (IntKind.u64.wrap ((Go.bits .and .u64 a0 4294967295) * (a1 / 4294967296))))) / 4294967296)),IntKind.u64.wrap (a0 * a1))) = some (r1,r2):=h
 clear h;simp only [Option.some.injEq,Prod.mk.injEq] at H;obtain ⟨rfl,rfl⟩:=H;go_enter Try.func84,Try.ntmps84
 go_wp2
 go_ret2
 exact ⟨by first | rfl | (simp;done) | (simp [*];done),by repeat (first | exact Drawn0.refl _ | apply Drawn0.step)⟩
def bits_Mul.f (a0 : Int) (a1 : Int) : Option (Int × Int):=(bits_Mul64.f a0 a1).bind fun bt859=>(some (bt859.1,bt859.2))
set_option maxHeartbeats 8000000 in
set_option maxRecDepth 100000 in
theorem bits_Mul.calls (a0 : Int) (a1 : Int) (r1 : Int) (r2 : Int) (w : World) (h : bits_Mul.f a0 a1 = some (r1,r2)) :
  Calls Try.prog 77 #[.int .u64 a0,.int .u64 a1] w fun e w'=>e = .returned (.tuple #[.int .u64 r1,.int .u64 r2]) ∧ Drawn0 w w':=by
 have H : ((bits_Mul64.f a0 a1).bind fun bt859=>(some (bt859.1,bt859.2))) = some (r1,r2):=h;clear h;replace H:=Option.bind_eq_some_iff.mp H;obtain ⟨⟨t859,t860⟩,A30,H⟩:=H;replace H : (some (t859,t860)) = some (r1,r2):=H;have A3:=Aside0.mk A30;clear A30;simp only [Option.some.injEq,Prod.mk.injEq] at H;obtain ⟨rfl,rfl⟩:=H;go_enter Try.func77,Try.ntmps77
 go_wp2_with (first | ((with_reducible refine gate_callee (f:=84) rfl ?_);refine goesM_ (some 25) Try.func84 #[.int .u64 a0,.int .u64 a1] ?_;(with_reducible refine (bits_Mul64.calls a0 a1 t859 t860 _ A3.out).mono ?_);rintro e w' ⟨rfl,⟨nd,rfl⟩⟩;refine ⟨_,rfl,?_⟩))
 go_ret2
 exact ⟨by first | rfl | (simp;done) | (simp [*];done),by repeat (first | exact Drawn0.refl _ | apply Drawn0.step)⟩
theorem eqA42 (d : Nat) (w : World) (x0 y0 : Int) (x1 y1 : Int) (x2 y2 : Int) (x3 y3 : Int) :
  (Op.equalIn (d + 2) 42 (.agg #[.int .i64 x0,.int .i64 x1,.int .i64 x2,.int .i64 x3]) (.agg #[.int .i64 y0,.int .i64 y1,.int .i64 y2,.int .i64 y3])).run Try.prog w = .ok (x0 == y0 && (x1 == y1 && (x2 == y2 && (x3 == y3)))) w:=by
 refine eqA_of Try.underlying42 (by kernel_rfl) ?_
 refine eqf_cons (by rfl) (by go_simp;rfl) (by go_simp;rfl) (by go_simp) ?_
 refine eqf_cons (by rfl) (by go_simp;rfl) (by go_simp;rfl) (by go_simp) ?_
 refine eqf_cons (by rfl) (by go_simp;rfl) (by go_simp;rfl) (by go_simp) ?_
 exact eqf_last (by rfl) (by go_simp;rfl) (by go_simp;rfl) (by go_simp)
attribute [local go_sem high] eqA42
def impl_Ins.l0 : Nat → List (S42) → List (S42) → Int → Int → Option (Bool)
 | 0,_,_,_,_=>none
 | k + 1,x0,x1,x12,x13=>if x13 < x12 then (if 0 ≤ x13 then (if x13 < (x0.length : Int) then (if x13 < (x1.length : Int) then (if (!(((rd_T42 x0 x13).f0) == ((rd_T42 x1 x13).f0)) || (!(((rd_T42 x0 x13).f1) == ((rd_T42 x1 x13).f1)) || (!(((rd_T42 x0 x13).f2) == ((rd_T42 x1 x13).f2)) || (!(((rd_T42 x0 x13).f3) == ((rd_T42 x1 x13).f3)))))) = true then (some false) else (impl_Ins.l0 k x0 x1 x12 (wrap64 (x13 + 1)))) else (none)) else (none)) else (none)) else (some true)
def impl_Ins.f (k : Nat) (l0 : List (S42)) (l1 : List (S42)) : Option (Bool):=if (l0.length : Int) = (l1.length : Int) then (impl_Ins.l0 k l0 l1 (l0.length : Int) 0) else (some false)
set_option maxHeartbeats 8000000 in
set_option maxRecDepth 100000 in
theorem impl_Ins.calls (k : Nat) (A0 : Option Addr) (c0 : Nat) (l0 : List (S42)) (A1 : Option Addr) (c1 : Nat) (l1 : List (S42)) (r : Bool) (w : World) (hr0 : Kd.C k42 w A0 l0.length l0) (hc0 : l0.length ≤ c0) (hr1 : Kd.C k42 w A1 l1.length l1) (hc1 : l1.length ≤ c1) (h : impl_Ins.f k l0 l1 = some r) :
  Calls Try.prog 45 #[.slice A0 l0.length c0,.slice A1 l1.length c1] w fun e w'=>e = .returned (.bool r) ∧ Drawn0 w w':=by
 have hu42:=Try.underlying42;have HR0:=Aside0.mk hr0;have HC0:=Aside0.mk hc0;clear hr0 hc0;have HR1:=Aside0.mk hr1;have HC1:=Aside0.mk hc1;clear hr1 hc1;have H : (if (l0.length : Int) = (l1.length : Int) then (impl_Ins.l0 k l0 l1 (l0.length : Int) 0) else (some false)) = some r:=h;clear h
 by_cases c3 : (l0.length : Int) = (l1.length : Int)
 ·rw [if_pos c3] at H;have c3b0 : ((l0.length : Int) == (l1.length : Int)) = true:=beq_iff_eq.mpr c3;have c3b1 : ((l0.length : Int) != (l1.length : Int)) = false:=bne_eq_false_iff_eq.mpr c3
  have c3b2 : (l0.length == l1.length) = true:=by first | simpa using c3 | (simp at c3 ⊢;omega)
  clear c3;have H':=Aside0.mk H;clear H;go_enter Try.func45,Try.ntmps45
  go_wp2
  repeat (go_quiet (fail);try go_wp2)
  go_loopg [13] k (fun kq v13 w'=>∃ (x13_1 : Int),v13 = .int .i64 x13_1 ∧ Aside0 (impl_Ins.l0 kq l0 l1 (l0.length : Int) x13_1 = some r) ∧ Aside0 (kq ≤ k) ∧ Drawn0 w w')
  case atStart=>exact ⟨(0),(by first | rfl | (simp;done) | (simp [*];done)),H',⟨Nat.le_refl _⟩,by repeat (first | exact Drawn0.refl _ | apply Drawn0.step)⟩
  case round =>
   clear H';(try clear c1);(try clear p2);(try clear c3);(try clear c3b0);(try clear c3b1);(try clear c3b2);obtain ⟨x13_1,rfl,HA,HK1,⟨m1,rfl⟩⟩:=hrel
   cases gk with
   | zero=>exact absurd HA.out (by simp [impl_Ins.l0])
   | succ k1 =>
    have H:=HA.out;clear HA;simp only [impl_Ins.l0] at H
    by_cases c4 : x13_1 < (l0.length : Int)
    ·rw [if_pos c4] at H;have c4b0 : decide (x13_1 < (l0.length : Int)) = true:=decide_eq_true c4;clear c4
     by_cases c5 : 0 ≤ x13_1
     ·rw [if_pos c5] at H;have c5b0 : decide (0 ≤ x13_1) = true:=decide_eq_true c5;clear c5
      by_cases c6 : x13_1 < (l0.length : Int)
      ·rw [if_pos c6] at H;have c6b0 : decide (x13_1 < (l0.length : Int)) = true:=decide_eq_true c6;clear c6
       by_cases c7 : x13_1 < (l1.length : Int)
       ·rw [if_pos c7] at H;have c7b0 : decide (x13_1 < (l1.length : Int)) = true:=decide_eq_true c7;clear c7
        by_cases c8 : (!(((rd_T42 l0 x13_1).f0) == ((rd_T42 l1 x13_1).f0)) || (!(((rd_T42 l0 x13_1).f1) == ((rd_T42 l1 x13_1).f1)) || (!(((rd_T42 l0 x13_1).f2) == ((rd_T42 l1 x13_1).f2)) || (!(((rd_T42 l0 x13_1).f3) == ((rd_T42 l1 x13_1).f3)))))) = true
        ·rw [if_pos c8] at H;have c8b0 : (!(((rd_T42 l0 x13_1).f0) == ((rd_T42 l1 x13_1).f0)) || (!(((rd_T42 l0 x13_1).f1) == ((rd_T42 l1 x13_1).f1)) || (!(((rd_T42 l0 x13_1).f2) == ((rd_T42 l1 x13_1).f2)) || (!(((rd_T42 l0 x13_1).f3) == ((rd_T42 l1 x13_1).f3)))))) = true:=c8;clear c8;obtain rfl:=Option.some.inj H
         have p568 : 0 ≤ (x13_1 : Int):=of_decide_eq_true (by first | (with_reducible assumption) | assumption)
         have q568 : x13_1 < (l0.length : Int):=of_decide_eq_true (by first | (with_reducible assumption) | assumption)
         obtain ⟨ad568,e568,hx568_0,hx568_1,hx568_2,hx568_3⟩:=at_T42 HR0.out x13_1 p568 q568
         cases e568
         replace p568:=eq_true p568;replace q568:=eq_true q568
         have p569 : 0 ≤ (x13_1 : Int):=of_decide_eq_true (by first | (with_reducible assumption) | assumption)
         have q569 : x13_1 < (l1.length : Int):=of_decide_eq_true (by first | (with_reducible assumption) | assumption)
         obtain ⟨ad569,e569,hx569_0,hx569_1,hx569_2,hx569_3⟩:=at_T42 HR1.out x13_1 p569 q569
         cases e569
         replace p569:=eq_true p569;replace q569:=eq_true q569
         go_wp2
         repeat (go_quiet (fail);try go_wp2)
         go_ret
         exact ⟨by first | rfl | (simp;done) | (simp [*];done),by repeat (first | exact Drawn0.refl _ | apply Drawn0.step)⟩
        ·rw [if_neg c8] at H
         have c8b0 : (!(((rd_T42 l0 x13_1).f0) == ((rd_T42 l1 x13_1).f0)) || (!(((rd_T42 l0 x13_1).f1) == ((rd_T42 l1 x13_1).f1)) || (!(((rd_T42 l0 x13_1).f2) == ((rd_T42 l1 x13_1).f2)) || (!(((rd_T42 l0 x13_1).f3) == ((rd_T42 l1 x13_1).f3)))))) = false:=by simpa using c8
         clear c8;have H':=Aside0.mk H;clear H
         have p568 : 0 ≤ (x13_1 : Int):=of_decide_eq_true (by first | (with_reducible assumption) | assumption)
         have q568 : x13_1 < (l0.length : Int):=of_decide_eq_true (by first | (with_reducible assumption) | assumption)
         obtain ⟨ad568,e568,hx568_0,hx568_1,hx568_2,hx568_3⟩:=at_T42 HR0.out x13_1 p568 q568
         cases e568
         replace p568:=eq_true p568;replace q568:=eq_true q568
         have p569 : 0 ≤ (x13_1 : Int):=of_decide_eq_true (by first | (with_reducible assumption) | assumption)
         have q569 : x13_1 < (l1.length : Int):=of_decide_eq_true (by first | (with_reducible assumption) | assumption)
         obtain ⟨ad569,e569,hx569_0,hx569_1,hx569_2,hx569_3⟩:=at_T42 HR1.out x13_1 p569 q569
         cases e569
         replace p569:=eq_true p569;replace q569:=eq_true q569
         go_wp2
         repeat (go_quiet (fail);try go_wp2)
         go_roundg k1
         case measure=>have:=HK1.out;omega
         case rel=>exact ⟨(wrap64 (x13_1 + 1)),(by first | rfl | (simp;done) | (simp [*];done)),H',⟨by have:=HK1.out;omega⟩,by repeat (first | exact Drawn0.refl _ | apply Drawn0.step)⟩
       ·rw [if_neg c7] at H
        exact absurd H (by simp)
      ·rw [if_neg c6] at H
       exact absurd H (by simp)
     ·rw [if_neg c5] at H
      exact absurd H (by simp)
    ·rw [if_neg c4] at H;have c4b0 : decide (x13_1 < (l0.length : Int)) = false:=decide_eq_false c4;clear c4;obtain rfl:=Option.some.inj H
     go_wp2
     repeat (go_quiet (fail);try go_wp2)
     go_ret
     exact ⟨by first | rfl | (simp;done) | (simp [*];done),by repeat (first | exact Drawn0.refl _ | apply Drawn0.step)⟩
 ·rw [if_neg c3] at H;have c3b0 : ((l0.length : Int) == (l1.length : Int)) = false:=beq_eq_false_iff_ne.mpr c3;have c3b1 : ((l0.length : Int) != (l1.length : Int)) = true:=bne_iff_ne.mpr c3
  have c3b2 : (l0.length == l1.length) = false:=by first | simpa using c3 | (simp at c3 ⊢;omega)
  obtain rfl:=Option.some.inj H;go_enter Try.func45,Try.ntmps45
  go_wp2
  repeat (go_quiet (fail);try go_wp2)
  go_ret
  exact ⟨by first | rfl | (simp;done) | (simp [*];done),by repeat (first | exact Drawn0.refl _ | apply Drawn0.step)⟩
end Go.Proofs.Ytphbdoljkpdflaa.P

namespace Go.Proofs.Ytphbdoljkpdflaa.P
open Go.RowKit Go.Proofs.YtphbdoljkpdflaaW.PrintWords Go.Proofs.YtphbdoljkpdflaaW.PrintLast Go.Proofs.YtphbdoljkpdflaaW.PrintMore
attribute [local go_sem] max2_int min2_int max_two min_two max_three min_three max_four min_four
set_option linter.unusedVariables false
set_option linter.unusedSimpArgs false
def impl_CodeSame.f (k : Nat) (l0 : List (S42)) (l1 : List (S42)) : Option (Bool):=(impl_Ins.f k l0 l1).bind fun t570=>(some t570)
set_option maxHeartbeats 8000000 in
set_option maxRecDepth 100000 in
theorem impl_CodeSame.calls (k : Nat) (A0 : Option Addr) (c0 : Nat) (l0 : List (S42)) (A1 : Option Addr) (c1 : Nat) (l1 : List (S42)) (r : Bool) (w : World) (hr0 : Kd.C k42 w A0 l0.length l0) (hc0 : l0.length ≤ c0) (hr1 : Kd.C k42 w A1 l1.length l1) (hc1 : l1.length ≤ c1) (h : impl_CodeSame.f k l0 l1 = some r) :
  Calls Try.prog 26 #[.slice A0 l0.length c0,.slice A1 l1.length c1] w fun e w'=>e = .returned (.bool r) ∧ Drawn0 w w':=by
 have HR0:=Aside0.mk hr0;have HC0:=Aside0.mk hc0;clear hr0 hc0;have HR1:=Aside0.mk hr1;have HC1:=Aside0.mk hc1;clear hr1 hc1;have H : ((impl_Ins.f k l0 l1).bind fun t570=>(some t570)) = some r:=h;clear h;replace H:=Option.bind_eq_some_iff.mp H;obtain ⟨t570,A30,H⟩:=H;replace H : (some t570) = some r:=H;have A3:=Aside0.mk A30;clear A30;obtain rfl:=Option.some.inj H;go_enter Try.func26,Try.ntmps26
 go_wp2_with (first | ((with_reducible refine gate_callee (f:=45) rfl ?_);refine goesM_ (some 7) Try.func45 #[.slice A0 l0.length c0,.slice A1 l1.length c1] ?_;(with_reducible refine (impl_Ins.calls k _ _ l0 _ _ l1 t570 _ ?side1 ?side2 ?side3 ?side4 A3.out).mono ?_);(case side1=>repeat (first | exact HR0.out | (with_reducible refine Kd.C_alloc ?_ _) | (with_reducible refine Kd.C_drewN ?_ _) | (with_reducible refine Kd.C_drew ?_)));(case side2=>exact HC0.out);(case side3=>repeat (first | exact HR1.out | (with_reducible refine Kd.C_alloc ?_ _) | (with_reducible refine Kd.C_drewN ?_ _) | (with_reducible refine Kd.C_drew ?_)));(case side4=>exact HC1.out);rintro e w' ⟨rfl,⟨nd,rfl⟩⟩;refine ⟨_,rfl,?_⟩))
 go_ret
 exact ⟨by first | rfl | (simp;done) | (simp [*];done),by repeat (first | exact Drawn0.refl _ | apply Drawn0.step)⟩
end Go.Proofs.Ytphbdoljkpdflaa.P
