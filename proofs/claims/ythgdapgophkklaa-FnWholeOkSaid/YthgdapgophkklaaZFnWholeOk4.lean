/- Parts of the proof of FnWholeOk: plain Lean functions of Go functions, and that the calls come to what they say; no condition beyond those that each theorem names. -/
import Derived.Test.YthgdapgophkklaaProg
import Derived.Below
import Derived.Deep.Draws
import Derived.Deep.AppendLies
import Derived.Maps.AppendAt
import Derived.OwnWalk
import Derived.Laws.BytesArg
import Derived.Laws.MakeOwn
import Derived.Laws.OwnMore
import Derived.Deep.OwnRows
import Derived.Tactics
import Derived.Lib.ConvBytes
import Derived.Laws.Slices
import Derived.WalkKit
import Derived.KernelRfl
import Derived.RowKit3
import Derived.Deep.LoopGhost
import Derived.Deep.QuietTactic
import Derived.BigQuiet
import Derived.WideLaws
import Derived.Deep.DeepCutAuto
import Derived.Deep.CutBlock
import Derived.Deep.RegionHeld3
import Derived.Laws.Rows
import Derived.Lib.AppendStr
import Derived.ArgAppend
import Derived.Laws.IdiomCopy
import Derived.OrdersHeld
import Derived.Laws.BitsLemmas
import Derived.RowKit
import Derived.Test.YthgdapgophkklaaZFnWholeOk0
import Derived.Test.YthgdapgophkklaaZFnWholeOk1
import Derived.Test.YthgdapgophkklaaZFnWholeOk2
import Derived.Test.YthgdapgophkklaaZFnWholeOk3
namespace Go.Proofs.Ythgdapgophkklaa.P
open Go.RowKit Go.Proofs.YthgdapgophkklaaW.PrintWords Go.Proofs.YthgdapgophkklaaW.PrintLast Go.Proofs.YthgdapgophkklaaW.PrintMore
attribute [local go_sem] max2_int min2_int max_two min_two max_three min_three max_four min_four
set_option linter.unusedVariables false
set_option linter.unusedSimpArgs false
def errW : Option Int → Value
 | none=>.nilIface
 | some c=>.iface 0 (.int .i64 c)
theorem errW_none : errW none = .nilIface:=rfl
theorem errW_some (c : Int) : errW (some c) = .iface 0 (.int .i64 c):=rfl
section
variable {α : Type} {d : Kd α} {e : Nat} {w : World} {base : Nat} {ok : Nat → Prop} {v : Value} {xs : List α}
end
theorem info3 : (Try.prog.info? 3).map (fun i=>(i.zero,i.size,i.bytes)) = some (some (.int .i64 0),1,8):=by kernel_rfl
theorem info5 : (Try.prog.info? 5).map (fun i=>(i.zero,i.size,i.bytes)) = some (some (.int .u8 0),1,1):=by kernel_rfl
theorem info36 : (Try.prog.info? 36).map (fun i=>(i.zero,i.size,i.bytes)) = some (some (.slice none 0 0),1,24):=by kernel_rfl
theorem info41 : (Try.prog.info? 41).map (fun i=>(i.zero,i.size,i.bytes)) = some (some (.agg #[(.int .i64 0),(.int .i64 0),(.int .i64 0),(.int .i64 0),(.slice none 0 0),(.slice none 0 0)]),6,80):=by kernel_rfl
structure S41 where
 f0 : Int
 f1 : Int
 f2 : Int
 f3 : Int
 f4 : (List S41)
 f5 : (List S41)
def z41 : S41:=⟨(0 : Int),(0 : Int),(0 : Int),(0 : Int),([] : List S41),([] : List S41)⟩
def F41 (d : Kd S41) : Kd S41:=Kd.iso (Kd.pair (Kd.int .i64) (Kd.pair (Kd.int .i64) (Kd.pair (Kd.int .i64) (Kd.pair (Kd.int .i64) (Kd.pair (Kd.slice 41 d) (Kd.slice 41 d)))))) (fun x : S41=>(x.f0,x.f1,x.f2,x.f3,x.f4,x.f5))
theorem mono41 : Kd.Mono F41:=Kd.mono_iso _ (Kd.mono_pair (Kd.mono_const _) (Kd.mono_pair (Kd.mono_const _) (Kd.mono_pair (Kd.mono_const _) (Kd.mono_pair (Kd.mono_const _) (Kd.mono_pair (Kd.mono_slice 41 Kd.mono_id) (Kd.mono_slice 41 Kd.mono_id))))))
theorem sub41 : Kd.Sub F41 [41]:=Kd.sub_iso _ (Kd.sub_pair (Kd.sub_const _ (by decide)) (Kd.sub_pair (Kd.sub_const _ (by decide)) (Kd.sub_pair (Kd.sub_const _ (by decide)) (Kd.sub_pair (Kd.sub_const _ (by decide)) (Kd.sub_pair (Kd.sub_slice 41 (by decide) Kd.sub_id) (Kd.sub_slice 41 (by decide) Kd.sub_id))))))
theorem sz41 : ∀ n,(Kd.upto F41 6 [41] n).sz = 6:=Kd.upto_sz (fun _=>rfl)
def k41 : Kd S41:=Kd.fix F41 6 [41] sz41 (Kd.upto_E sub41)
theorem k41_open {w : World} {x : S41} {cs : List Value} (h : k41.K w x cs) : ∃ A4 c4 A5 c5,cs = [.int .i64 x.f0,.int .i64 x.f1,.int .i64 x.f2,.int .i64 x.f3,.slice A4 x.f4.length c4,.slice A5 x.f5.length c5] ∧ x.f4.length ≤ c4 ∧ k41.C w A4 x.f4.length x.f4 ∧ x.f5.length ≤ c5 ∧ k41.C w A5 x.f5.length x.f5:=by
 obtain ⟨n,h⟩:=h
 cases n with
 | zero=>exact h.elim
 | succ n =>
  obtain ⟨_,_,rfl,rfl,⟨_,_,rfl,rfl,⟨_,_,rfl,rfl,⟨_,_,rfl,rfl,⟨_,_,rfl,⟨A4,c4,rfl,l4,g4⟩,⟨A5,c5,rfl,l5,g5⟩⟩⟩⟩⟩⟩:=h
  exact ⟨A4,c4,A5,c5,rfl,l4,Kd.fix_C g4,l5,Kd.fix_C g5⟩
theorem k41_mk (w : World) (x : S41) {A4 : Option Addr} {c4 : Nat} (l4 : x.f4.length ≤ c4) (g4 : k41.C w A4 x.f4.length x.f4) {A5 : Option Addr} {c5 : Nat} (l5 : x.f5.length ≤ c5) (g5 : k41.C w A5 x.f5.length x.f5) : k41.K w x [.int .i64 x.f0,.int .i64 x.f1,.int .i64 x.f2,.int .i64 x.f3,.slice A4 x.f4.length c4,.slice A5 x.f5.length c5]:=by
 obtain ⟨n4,q4⟩:=Kd.fix_C_back mono41 g4
 obtain ⟨n5,q5⟩:=Kd.fix_C_back mono41 g5
 have r4:=Kd.upto_C_le mono41 sz41 (show n4 ≤ (max n4 n5) by omega) q4
 have r5:=Kd.upto_C_le mono41 sz41 (show n5 ≤ (max n4 n5) by omega) q5
 exact ⟨(max n4 n5) + 1,⟨[.int .i64 x.f0],[.int .i64 x.f1,.int .i64 x.f2,.int .i64 x.f3,.slice A4 x.f4.length c4,.slice A5 x.f5.length c5],rfl,rfl,⟨[.int .i64 x.f1],[.int .i64 x.f2,.int .i64 x.f3,.slice A4 x.f4.length c4,.slice A5 x.f5.length c5],rfl,rfl,⟨[.int .i64 x.f2],[.int .i64 x.f3,.slice A4 x.f4.length c4,.slice A5 x.f5.length c5],rfl,rfl,⟨[.int .i64 x.f3],[.slice A4 x.f4.length c4,.slice A5 x.f5.length c5],rfl,rfl,⟨[.slice A4 x.f4.length c4],[.slice A5 x.f5.length c5],rfl,⟨A4,c4,rfl,l4,r4⟩,⟨A5,c5,rfl,l5,r5⟩⟩⟩⟩⟩⟩⟩
theorem k41_mkM (w : World) (base : Nat) (ok : Nat → Prop) (x : S41) {v4 : Value} (g4 : k41.R 41 w base ok v4 x.f4) {v5 : Value} (g5 : k41.R 41 w base ok v5 x.f5) : k41.M w base ok x [.int .i64 x.f0,.int .i64 x.f1,.int .i64 x.f2,.int .i64 x.f3,v4,v5]:=by
 obtain ⟨n4,q4⟩:=Kd.fix_R_back mono41 g4
 obtain ⟨n5,q5⟩:=Kd.fix_R_back mono41 g5
 have r4:=Kd.upto_R_le mono41 sz41 (show n4 ≤ (max n4 n5) by omega) q4
 have r5:=Kd.upto_R_le mono41 sz41 (show n5 ≤ (max n4 n5) by omega) q5
 exact ⟨(max n4 n5) + 1,⟨[.int .i64 x.f0],[.int .i64 x.f1,.int .i64 x.f2,.int .i64 x.f3,v4,v5],rfl,rfl,⟨[.int .i64 x.f1],[.int .i64 x.f2,.int .i64 x.f3,v4,v5],rfl,rfl,⟨[.int .i64 x.f2],[.int .i64 x.f3,v4,v5],rfl,rfl,⟨[.int .i64 x.f3],[v4,v5],rfl,rfl,⟨[v4],[v5],rfl,⟨v4,rfl,r4⟩,⟨v5,rfl,r5⟩⟩⟩⟩⟩⟩⟩
theorem k41_openF {W : World} {ok : Nat → Prop} {x : S41} {cs : List Value} (h : Kd.FK k41 W ok x cs) : ∃ A4 c4 A5 c5,cs = [.int .i64 x.f0,.int .i64 x.f1,.int .i64 x.f2,.int .i64 x.f3,.slice A4 x.f4.length c4,.slice A5 x.f5.length c5] ∧ x.f4.length ≤ c4 ∧ Kd.F k41 W ok A4 x.f4.length x.f4 ∧ x.f5.length ≤ c5 ∧ Kd.F k41 W ok A5 x.f5.length x.f5:=by
 obtain ⟨A4,c4,A5,c5,rfl,l4,_,l5,_⟩:=k41_open (Kd.FK_now h)
 exact ⟨A4,c4,A5,c5,rfl,l4,(fun W' hW=>by obtain ⟨A4_,c4_,A5_,c5_,he,l4_,g4_,l5_,g5_⟩:=k41_open (h W' hW);injection (Option.some.inj (show some (Value.slice A4 x.f4.length c4) = some (Value.slice A4_ x.f4.length c4_) from congrArg (fun l=>l[4]?) he)) with ha_ _ _;rw [ha_];exact g4_),l5,(fun W' hW=>by obtain ⟨A4_,c4_,A5_,c5_,he,l4_,g4_,l5_,g5_⟩:=k41_open (h W' hW);injection (Option.some.inj (show some (Value.slice A5 x.f5.length c5) = some (Value.slice A5_ x.f5.length c5_) from congrArg (fun l=>l[5]?) he)) with ha_ _ _;rw [ha_];exact g5_)⟩
theorem k41_mkF (W : World) (ok : Nat → Prop) (x : S41) {A4 : Option Addr} {c4 : Nat} (l4 : x.f4.length ≤ c4) (g4 : Kd.F k41 W ok A4 x.f4.length x.f4) {A5 : Option Addr} {c5 : Nat} (l5 : x.f5.length ≤ c5) (g5 : Kd.F k41 W ok A5 x.f5.length x.f5) : Kd.FK k41 W ok x [.int .i64 x.f0,.int .i64 x.f1,.int .i64 x.f2,.int .i64 x.f3,.slice A4 x.f4.length c4,.slice A5 x.f5.length c5]:=fun W2 hW=>k41_mk W2 x l4 (g4 W2 hW) l5 (g5 W2 hW)
def rd_T41 (xs : List S41) (i : Int) : S41:=xs.getD i.toNat z41
theorem at_T41 {w : World} {A : Option Addr} {n : Nat} {xs : List S41} (h : Kd.C k41 w A n xs) (i : Int) (h0 : 0 ≤ i) (h1 : i < n) : ∃ ad A4 c4 A5 c5,A = some ad ∧ w.cell? (ad.add (i.toNat * 6)) = some (.int .i64 (rd_T41 xs i).f0) ∧ w.cell? ⟨(ad.add (i.toNat * 6)).block,(ad.add (i.toNat * 6)).off + 1,none⟩ = some (.int .i64 (rd_T41 xs i).f1) ∧ w.cell? ⟨(ad.add (i.toNat * 6)).block,(ad.add (i.toNat * 6)).off + 2,none⟩ = some (.int .i64 (rd_T41 xs i).f2) ∧ w.cell? ⟨(ad.add (i.toNat * 6)).block,(ad.add (i.toNat * 6)).off + 3,none⟩ = some (.int .i64 (rd_T41 xs i).f3) ∧ w.cell? ⟨(ad.add (i.toNat * 6)).block,(ad.add (i.toNat * 6)).off + 4,none⟩ = some (.slice A4 (rd_T41 xs i).f4.length c4) ∧ w.cell? ⟨(ad.add (i.toNat * 6)).block,(ad.add (i.toNat * 6)).off + 5,none⟩ = some (.slice A5 (rd_T41 xs i).f5.length c5) ∧ (rd_T41 xs i).f4.length ≤ c4 ∧ k41.C w A4 (rd_T41 xs i).f4.length (rd_T41 xs i).f4 ∧ (rd_T41 xs i).f5.length ≤ c5 ∧ k41.C w A5 (rd_T41 xs i).f5.length (rd_T41 xs i).f5:=by
 obtain ⟨ad,c,e,_,hK,hc0⟩:=Kd.C_get h z41 i h0 h1
 have hc : ∀ j u,c[j]? = some u → w.cell? (ad.add (i.toNat * 6 + j)) = some u:=hc0
 obtain ⟨A4,c4,A5,c5,rfl,l4,g4,l5,g5⟩:=k41_open hK
 exact ⟨ad,A4,c4,A5,c5,e,hc 0 _ rfl,by rw [← add_field _ _ 1 (by omega)];exact hc 1 _ rfl,by rw [← add_field _ _ 2 (by omega)];exact hc 2 _ rfl,by rw [← add_field _ _ 3 (by omega)];exact hc 3 _ rfl,by rw [← add_field _ _ 4 (by omega)];exact hc 4 _ rfl,by rw [← add_field _ _ 5 (by omega)];exact hc 5 _ rfl,l4,g4,l5,g5⟩
def rd_L3 (xs : List (List S41)) (i : Int) : (List S41):=xs.getD i.toNat ([] : List S41)
theorem at_L3 {w : World} {A : Option Addr} {n : Nat} {xs : List (List S41)} (h : Kd.C (Kd.slice 41 k41) w A n xs) (i : Int) (h0 : 0 ≤ i) (h1 : i < n) : ∃ ad A0 c0,A = some ad ∧ w.cell? (ad.add i.toNat) = some (.slice A0 (rd_L3 xs i).length c0) ∧ (rd_L3 xs i).length ≤ c0 ∧ k41.C w A0 (rd_L3 xs i).length (rd_L3 xs i):=by
 obtain ⟨ad,c,e,_,hK,hc0⟩:=Kd.C_get h ([] : List S41) i h0 h1
 have hc : ∀ j u,c[j]? = some u → w.cell? (ad.add (i.toNat * 1 + j)) = some u:=hc0
 obtain ⟨A0,c0,rfl,l0,g0⟩:=hK
 exact ⟨ad,A0,c0,e,by have hq:=hc 0 _ rfl;rwa [Nat.mul_one,Nat.add_zero] at hq,l0,g0⟩
def rd_L4 (xs : List (List (List S41))) (i : Int) : (List (List S41)):=xs.getD i.toNat ([] : List (List S41))
def rd_L5 (xs : List (List Int)) (i : Int) : (List Int):=xs.getD i.toNat ([] : List Int)
structure S7 where
 f0 : Int
 f1 : Int
 f2 : Bool
 f3 : Int
def z7 : S7:=⟨(0 : Int),(0 : Int),false,(0 : Int)⟩
def k7 : Kd S7:=Kd.iso (Kd.pair (Kd.int .i64) (Kd.pair (Kd.int .i64) (Kd.pair Kd.bool (Kd.int .u8)))) (fun x : S7=>(x.f0,x.f1,x.f2,x.f3))
def rd_T7 (xs : List S7) (i : Int) : S7:=xs.getD i.toNat z7
structure S8 where
 f0 : Int
 f1 : Int
 f2 : Bool
 f3 : Int
def z8 : S8:=⟨(0 : Int),(0 : Int),false,(0 : Int)⟩
def k8 : Kd S8:=Kd.iso (Kd.pair (Kd.int .i64) (Kd.pair (Kd.int .i64) (Kd.pair Kd.bool (Kd.int .u8)))) (fun x : S8=>(x.f0,x.f1,x.f2,x.f3))
def rd_T8 (xs : List S8) (i : Int) : S8:=xs.getD i.toNat z8
structure S13 where
 f0 : ByteArray
 f1 : Int
def z13 : S13:=⟨(⟨#[]⟩ : ByteArray),(0 : Int)⟩
def k13 : Kd S13:=Kd.iso (Kd.pair Kd.string (Kd.int .u64)) (fun x : S13=>(x.f0,x.f1))
def rd_T13 (xs : List S13) (i : Int) : S13:=xs.getD i.toNat z13
structure S14 where
 f0 : ByteArray
 f1 : Int
def z14 : S14:=⟨(⟨#[]⟩ : ByteArray),(0 : Int)⟩
def k14 : Kd S14:=Kd.iso (Kd.pair Kd.string (Kd.int .u64)) (fun x : S14=>(x.f0,x.f1))
def rd_T14 (xs : List S14) (i : Int) : S14:=xs.getD i.toNat z14
def rd_L13 (xs : List (List Int)) (i : Int) : (List Int):=xs.getD i.toNat ([] : List Int)
structure S40 where
 f0 : Int
 f1 : Int
 f2 : Int
 f3 : Int
 f4 : (List S41)
 f5 : (List S41)
def z40 : S40:=⟨(0 : Int),(0 : Int),(0 : Int),(0 : Int),([] : List S41),([] : List S41)⟩
def k40 : Kd S40:=Kd.iso (Kd.pair (Kd.int .i64) (Kd.pair (Kd.int .i64) (Kd.pair (Kd.int .i64) (Kd.pair (Kd.int .i64) (Kd.pair (Kd.slice 41 k41) (Kd.slice 41 k41)))))) (fun x : S40=>(x.f0,x.f1,x.f2,x.f3,x.f4,x.f5))
def rd_T40 (xs : List S40) (i : Int) : S40:=xs.getD i.toNat z40
structure S42 where
 f0 : S41
 f1 : Int
def z42 : S42:=⟨z41,(0 : Int)⟩
def k42 : Kd S42:=Kd.iso (Kd.pair k41 (Kd.int .i64)) (fun x : S42=>(x.f0,x.f1))
def rd_T42 (xs : List S42) (i : Int) : S42:=xs.getD i.toNat z42
structure S43 where
 f0 : S41
 f1 : Int
def z43 : S43:=⟨z41,(0 : Int)⟩
def k43 : Kd S43:=Kd.iso (Kd.pair k41 (Kd.int .i64)) (fun x : S43=>(x.f0,x.f1))
def rd_T43 (xs : List S43) (i : Int) : S43:=xs.getD i.toNat z43
structure S52 where
 f0 : (List Int)
 f1 : Int
def z52 : S52:=⟨([] : List Int),(0 : Int)⟩
def k52 : Kd S52:=Kd.iso (Kd.pair (Kd.slice 5 (Kd.int .u8)) (Kd.int .i64)) (fun x : S52=>(x.f0,x.f1))
def rd_T52 (xs : List S52) (i : Int) : S52:=xs.getD i.toNat z52
structure S53 where
 f0 : (List Int)
 f1 : Int
def z53 : S53:=⟨([] : List Int),(0 : Int)⟩
def k53 : Kd S53:=Kd.iso (Kd.pair (Kd.slice 5 (Kd.int .u8)) (Kd.int .i64)) (fun x : S53=>(x.f0,x.f1))
def rd_T53 (xs : List S53) (i : Int) : S53:=xs.getD i.toNat z53
structure S68 where
 f0 : ByteArray
 f1 : Int
 f2 : Int
 f3 : Bool
 f4 : Bool
def z68 : S68:=⟨(⟨#[]⟩ : ByteArray),(0 : Int),(0 : Int),false,false⟩
def k68 : Kd S68:=Kd.iso (Kd.pair Kd.string (Kd.pair (Kd.int .i64) (Kd.pair (Kd.int .i64) (Kd.pair Kd.bool Kd.bool)))) (fun x : S68=>(x.f0,x.f1,x.f2,x.f3,x.f4))
def rd_T68 (xs : List S68) (i : Int) : S68:=xs.getD i.toNat z68
structure S69 where
 f0 : ByteArray
 f1 : Int
 f2 : Int
 f3 : Bool
 f4 : Bool
def z69 : S69:=⟨(⟨#[]⟩ : ByteArray),(0 : Int),(0 : Int),false,false⟩
def k69 : Kd S69:=Kd.iso (Kd.pair Kd.string (Kd.pair (Kd.int .i64) (Kd.pair (Kd.int .i64) (Kd.pair Kd.bool Kd.bool)))) (fun x : S69=>(x.f0,x.f1,x.f2,x.f3,x.f4))
def rd_T69 (xs : List S69) (i : Int) : S69:=xs.getD i.toNat z69
end Go.Proofs.Ythgdapgophkklaa.P

namespace Go.Proofs.Ythgdapgophkklaa.P
open Go.RowKit Go.Proofs.YthgdapgophkklaaW.PrintWords Go.Proofs.YthgdapgophkklaaW.PrintLast Go.Proofs.YthgdapgophkklaaW.PrintMore
attribute [local go_sem] max2_int min2_int max_two min_two max_three min_three max_four min_four
set_option linter.unusedVariables false
set_option linter.unusedSimpArgs false
theorem goesM_ {P : Program} {ops : Array Oper} {Q : Exit → Act → World → Prop} {rest : List Oper} {oi : Oper} {a : Act} {w : World} (N : Option Tmp) {f : FuncId} {fn : Func} {as_ : Array Operand} {ts : Array TypeId} (hf : P.funcs[f]? = some fn) (args : Array Value) (h : Calls P f args w fun e w' => ∃ v, e = .returned v ∧ wpList P ops Q rest (a.put N v) w') (hd : oi.dst = N := by exact rfl) (hg : oi.guard = none := by exact rfl) (hname : (fn.name == "runtime.NumGoroutine") = false := by kernel_rfl) (hb : fn.body.isSome = true := by exact rfl) (hop : oi.op = .call { callee := .value (.func f), args := as_, argTypes := ts } := by exact rfl) (hargs : as_.map a.eval = args := by (try simp only [List.map_toArray, List.map_cons, List.map_nil]); first | done | rfl | (simp only [List.length_drop, List.length_take]; rfl)) : wpList P ops Q (oi :: rest) a w := goesL_ N hd hg hf hname hb args hop hargs h
theorem bz6_ {w : World} {g : Nat} {t : TypeId} {c0 c1 c2 c3 c4 c5 : Value} (h : Aside0 (w.heap[g]? = some (.cells #[c0,c1,c2,c3,c4,c5] t (0,0)))) : w.cell? ⟨g,0,none⟩ = some c0 ∧ w.cell? ⟨g,1,none⟩ = some c1 ∧ w.cell? ⟨g,2,none⟩ = some c2 ∧ w.cell? ⟨g,3,none⟩ = some c3 ∧ w.cell? ⟨g,4,none⟩ = some c4 ∧ w.cell? ⟨g,5,none⟩ = some c5 ∧ w.frozen? ⟨g,0,none⟩ = false ∧ w.frozen? ⟨g,1,none⟩ = false ∧ w.frozen? ⟨g,2,none⟩ = false ∧ w.frozen? ⟨g,3,none⟩ = false ∧ w.frozen? ⟨g,4,none⟩ = false ∧ w.frozen? ⟨g,5,none⟩ = false:=⟨(blk_cell h.out 0).trans rfl,(blk_cell h.out 1).trans rfl,(blk_cell h.out 2).trans rfl,(blk_cell h.out 3).trans rfl,(blk_cell h.out 4).trans rfl,(blk_cell h.out 5).trans rfl,blk_frozen h.out 0,blk_frozen h.out 1,blk_frozen h.out 2,blk_frozen h.out 3,blk_frozen h.out 4,blk_frozen h.out 5⟩
theorem bp6_0_ {w : World} {g : Nat} {t : TypeId} {c0 c1 c2 c3 c4 c5 z : Value} (h : w.heap[g]? = some (.cells #[z,c1,c2,c3,c4,c5] t (0,0))) : (w.setCell ⟨g,0,none⟩ c0).heap[g]? = some (.cells #[c0,c1,c2,c3,c4,c5] t (0,0)):=blk_put h 0 c0 rfl
theorem bp6_1_ {w : World} {g : Nat} {t : TypeId} {c0 c1 c2 c3 c4 c5 z : Value} (h : w.heap[g]? = some (.cells #[c0,z,c2,c3,c4,c5] t (0,0))) : (w.setCell ⟨g,1,none⟩ c1).heap[g]? = some (.cells #[c0,c1,c2,c3,c4,c5] t (0,0)):=blk_put h 1 c1 rfl
theorem bp6_2_ {w : World} {g : Nat} {t : TypeId} {c0 c1 c2 c3 c4 c5 z : Value} (h : w.heap[g]? = some (.cells #[c0,c1,z,c3,c4,c5] t (0,0))) : (w.setCell ⟨g,2,none⟩ c2).heap[g]? = some (.cells #[c0,c1,c2,c3,c4,c5] t (0,0)):=blk_put h 2 c2 rfl
theorem bp6_3_ {w : World} {g : Nat} {t : TypeId} {c0 c1 c2 c3 c4 c5 z : Value} (h : w.heap[g]? = some (.cells #[c0,c1,c2,z,c4,c5] t (0,0))) : (w.setCell ⟨g,3,none⟩ c3).heap[g]? = some (.cells #[c0,c1,c2,c3,c4,c5] t (0,0)):=blk_put h 3 c3 rfl
theorem bp6_4_ {w : World} {g : Nat} {t : TypeId} {c0 c1 c2 c3 c4 c5 z : Value} (h : w.heap[g]? = some (.cells #[c0,c1,c2,c3,z,c5] t (0,0))) : (w.setCell ⟨g,4,none⟩ c4).heap[g]? = some (.cells #[c0,c1,c2,c3,c4,c5] t (0,0)):=blk_put h 4 c4 rfl
theorem bp6_5_ {w : World} {g : Nat} {t : TypeId} {c0 c1 c2 c3 c4 c5 z : Value} (h : w.heap[g]? = some (.cells #[c0,c1,c2,c3,c4,z] t (0,0))) : (w.setCell ⟨g,5,none⟩ c5).heap[g]? = some (.cells #[c0,c1,c2,c3,c4,c5] t (0,0)):=blk_put h 5 c5 rfl
theorem q0_ {A Z : Prop} (a0 : Aside0 A) (h : A → Z:=by intro h0_;repeat (first | (with_reducible first | exact h0_ | apply IsS53.alloc | apply IsS53.drewN | apply IsS53.drew | apply IsS53.set_1) | exact h0_)) : Z:=h a0.out
theorem q1_ {A B Z : Prop} (a0 : Aside0 A) (a1 : Aside0 B) (h : A → B → Z:=by intro h0_ h1_;repeat (first | (with_reducible first | exact h0_ | apply below_alloc | apply pw_below_drewN | apply below_drew1 | refine below_set ?_ (IsS53.ge h1_)) | exact h0_)) : Z:=h a0.out a1.out
theorem q2_ {A Z : Prop} (a0 : Aside0 A) (h : A → Z:=by intro h0_;repeat (first | (with_reducible first | exact h0_ | apply KeepBut.set_ | apply keep_drewN | apply keep_drew | apply keep_alloc) | exact h0_)) : Z:=h a0.out
theorem q3_ {A Z : Prop} (a0 : Aside0 A) (h : A → Z:=by intro h0_;repeat (first | (with_reducible first | exact h0_ | apply below_alloc | apply pw_below_drewN | apply below_drew1) | exact h0_)) : Z:=h a0.out
theorem q4_ {A Z : Prop} (a0 : Aside0 A) (h : A → Z:=by intro h0_;(with_reducible repeat (first | refine blk_drewN ?_ _ | refine blk_drew ?_ | refine blk_alloc ?_ _));exact h0_) : Z:=h a0.out
theorem q5_ {A B Z : Prop} (a0 : Aside0 A) (a1 : Aside0 B) (h : A → B → Z:=by intro h0_ h1_;repeat (first | (with_reducible first | exact h0_ | apply below_alloc | apply pw_below_drewN | apply below_drew1 | refine below_set ?_ h1_) | exact h0_)) : Z:=h a0.out a1.out
theorem q6_ {A B Z : Prop} (a0 : Aside0 A) (a1 : Aside0 B) (h : A → B → Z:=by intro h0_ h1_;repeat (first | (with_reducible first | exact h0_ | apply IsS53.alloc | apply IsS53.drewN | apply IsS53.drew | apply IsS53.set_1 | refine IsS53.far ?_ h1_ _) | exact h0_)) : Z:=h a0.out a1.out
theorem q7_ {A B C Z : Prop} (a0 : Aside0 A) (a1 : Aside0 B) (a2 : Aside0 C) (h : A → B → C → Z:=by intro h0_ h1_ h2_;repeat (first | (with_reducible first | exact h0_ | apply below_alloc | apply pw_below_drewN | apply below_drew1 | refine below_set ?_ (IsS53.ge h1_) | refine below_set ?_ h2_) | exact h0_)) : Z:=h a0.out a1.out a2.out
theorem q8_ {A B Z : Prop} (a0 : Aside0 A) (a1 : Aside0 B) (h : A → B → Z:=by intro h0_ h1_;repeat (first | (with_reducible first | exact h0_ | apply KeepBut.set_ | apply keep_drewN | apply keep_drew | apply keep_alloc | refine keep_far ?_ h1_ _) | exact h0_)) : Z:=h a0.out a1.out
theorem q9_ {A Z : Prop} (a0 : Aside0 A) (h : A → Z:=by intro h0_;(with_reducible repeat (first | apply Kd.R_alloc | apply Kd.R_drewN | apply Kd.R_drew));exact h0_) : Z:=h a0.out
theorem q10_ {A Z : Prop} (a0 : Aside0 A) (h : A → Z:=by intro h0_;(with_reducible repeat (first | refine blk_drewN ?_ _ | refine blk_drew ?_ | refine blk_alloc ?_ _));apply bp6_5_;(with_reducible repeat (first | refine blk_drewN ?_ _ | refine blk_drew ?_ | refine blk_alloc ?_ _));apply bp6_4_;(with_reducible repeat (first | refine blk_drewN ?_ _ | refine blk_drew ?_ | refine blk_alloc ?_ _));apply bp6_3_;(with_reducible repeat (first | refine blk_drewN ?_ _ | refine blk_drew ?_ | refine blk_alloc ?_ _));apply bp6_2_;(with_reducible repeat (first | refine blk_drewN ?_ _ | refine blk_drew ?_ | refine blk_alloc ?_ _));apply bp6_1_;(with_reducible repeat (first | refine blk_drewN ?_ _ | refine blk_drew ?_ | refine blk_alloc ?_ _));apply bp6_0_;(with_reducible repeat (first | refine blk_drewN ?_ _ | refine blk_drew ?_ | refine blk_alloc ?_ _));exact h0_) : Z:=h a0.out
theorem q11_ {A Z : Prop} (a0 : Aside0 A) (h : A → Z:=by intro h0_;(with_reducible repeat (first | apply Kd.N_alloc | apply Kd.N_drewN | apply Kd.N_drew));exact h0_) : Z:=h a0.out
theorem q12_ {A Z : Prop} (a0 : Aside0 A) (h : A → Z:=by intro h0_;(with_reducible repeat (first | apply Kd.V_alloc | apply Kd.V_drewN | apply Kd.V_drew));exact h0_) : Z:=h a0.out
end Go.Proofs.Ythgdapgophkklaa.P

namespace Go.Proofs.Ythgdapgophkklaa.P
open Go.RowKit Go.Proofs.YthgdapgophkklaaW.PrintWords Go.Proofs.YthgdapgophkklaaW.PrintLast Go.Proofs.YthgdapgophkklaaW.PrintMore
open Go.Proofs.YthgdapgophkklaaW.PrintWords renaming Aside0.mk → O, blk_frozen → Z, blk_cell → J, pw_below_drewN → Y, below_drew1 → E, below_alloc → U, below_set → G, below_step → X, Kd.C_alloc → Q, Kd.C_drewN → W, Kd.C_drew → V
open Option renaming some.inj → D, bind_eq_some_iff → L
open Go.RowKit renaming wrap64 → M
open Go.Proofs.Ythgdapgophkklaa.P renaming errW_some → S, errW_none → T
attribute [local go_sem] max2_int min2_int max_two min_two max_three min_three max_four min_four
set_option linter.unusedVariables false
set_option linter.unusedSimpArgs false
mutual
def laws_wpCell.l0 : Nat → List (S41) → Int → Int → Int → Option (Bool)
 | 0,_,_,_,_=>none
 | k + 1,x0,x1,x2,x7=>if x7 < (x0.length : Int) then (laws_wpCell.j1 k x0 x1 x2 x7 (decide (x2 > 0))) else (laws_wpCell.j1 k x0 x1 x2 x7 false)
def laws_wpCell.j1 : Nat → List (S41) → Int → Int → Int → Bool → Option (Bool)
 | 0,_,_,_,_,_=>none
 | k + 1,x0,x1,x2,x7,x17=>if x17 = true then (if 0 ≤ x7 then (if x7 < (x0.length : Int) then (if ((rd_T41 x0 x7).f0) = 9 then (laws_wpCell.j2 k x0 x1 x2 x7 ((M (3 + ((rd_T41 x0 x7).f1))) == x1) ((rd_T41 x0 x7).f0) ((rd_T41 x0 x7).f1) ((rd_T41 x0 x7).f2) ((rd_T41 x0 x7).f3) ((rd_T41 x0 x7).f4) ((rd_T41 x0 x7).f5)) else (if ((rd_T41 x0 x7).f0) = 10 then (laws_wpCell.j2 k x0 x1 x2 x7 ((M (3 + ((rd_T41 x0 x7).f1))) == x1) ((rd_T41 x0 x7).f0) ((rd_T41 x0 x7).f1) ((rd_T41 x0 x7).f2) ((rd_T41 x0 x7).f3) ((rd_T41 x0 x7).f4) ((rd_T41 x0 x7).f5)) else (laws_wpCell.j2 k x0 x1 x2 x7 false ((rd_T41 x0 x7).f0) ((rd_T41 x0 x7).f1) ((rd_T41 x0 x7).f2) ((rd_T41 x0 x7).f3) ((rd_T41 x0 x7).f4) ((rd_T41 x0 x7).f5)))) else (none)) else (none)) else (some false)
def laws_wpCell.j2 : Nat → List (S41) → Int → Int → Int → Bool → Int → Int → Int → Int → List (S41) → List (S41) → Option (Bool)
 | 0,_,_,_,_,_,_,_,_,_,_,_=>none
 | k + 1,x0,x1,x2,x7,x9,x419000,x419001,x419002,x419003,x419004,x419005=>if x9 = true then (some true) else (if x419000 = 3 then (if x419002 = x1 then (some true) else (if x419000 = 4 then (if x419001 = x1 then (some true) else ((laws_wpCell.f k x419004 x1 (M (x2 - 1))).bind fun t419=>(if t419 = true then (some true) else ((laws_wpCell.f k x419005 x1 (M (x2 - 1))).bind fun t420=>(if t420 = true then (some true) else (laws_wpCell.l0 k x0 x1 x2 (M (x7 + 1)))))))) else ((laws_wpCell.f k x419004 x1 (M (x2 - 1))).bind fun t421=>(if t421 = true then (some true) else ((laws_wpCell.f k x419005 x1 (M (x2 - 1))).bind fun t422=>(if t422 = true then (some true) else (laws_wpCell.l0 k x0 x1 x2 (M (x7 + 1))))))))) else (if x419000 = 4 then (if x419001 = x1 then (some true) else ((laws_wpCell.f k x419004 x1 (M (x2 - 1))).bind fun t423=>(if t423 = true then (some true) else ((laws_wpCell.f k x419005 x1 (M (x2 - 1))).bind fun t424=>(if t424 = true then (some true) else (laws_wpCell.l0 k x0 x1 x2 (M (x7 + 1)))))))) else ((laws_wpCell.f k x419004 x1 (M (x2 - 1))).bind fun t425=>(if t425 = true then (some true) else ((laws_wpCell.f k x419005 x1 (M (x2 - 1))).bind fun t426=>(if t426 = true then (some true) else (laws_wpCell.l0 k x0 x1 x2 (M (x7 + 1)))))))))
def laws_wpCell.f : Nat → List (S41) → Int → Int → Option (Bool)
 | 0,_,_,_=>none
 | k + 1,l0,a1,a2=>laws_wpCell.l0 k l0 a1 a2 0
end
set_option maxHeartbeats 8000000 in
set_option maxRecDepth 100000 in
theorem laws_wpCell.calls (k : Nat) : ∀ (A0 : Option Addr) (c0 : Nat) (l0 : List (S41)) (a1 : Int) (a2 : Int) (r : Bool) (w : World) (hr0 : Kd.C k41 w A0 l0.length l0) (hc0 : l0.length ≤ c0) (h : laws_wpCell.f k l0 a1 a2 = some r),
  Calls Try.prog 17 #[.slice A0 l0.length c0,.int .i64 a1,.int .i64 a2] w fun e w'=>e = .returned (.bool r) ∧ Below w.heap.size w w':=by
 induction k using Nat.strongRecOn with
 | _ k ih =>
 intro A0 c0 l0 a1 a2 r w hr0 hc0 h
 cases k with
 | zero=>exact absurd h (by simp [laws_wpCell.f])
 | succ k =>
 simp only [laws_wpCell.f] at h;have hu41:=Try.underlying41;have HR0:=O hr0;have HC0:=O hc0;clear hr0 hc0;have HB:=O (Below.refl w.heap.size w);have H : (laws_wpCell.l0 k l0 a1 a2 0) = some r:=h;clear h;have H':=O H;clear H;go_enter Try.func17,Try.ntmps17
 go_wp2
 go_loopg [7] k (fun kq v7 w'=>∃ (x7_1 : Int),v7 = .int .i64 x7_1 ∧ Aside0 (laws_wpCell.l0 kq l0 a1 a2 x7_1 = some r) ∧ Aside0 (kq ≤ k) ∧ Aside0 (Below w.heap.size w w'))
 case atStart=>exact ⟨(0),(by first | rfl | (simp;done) | (simp [*];done)),H',⟨Nat.le_refl _⟩,⟨by repeat (first | (with_reducible first | exact HB.out | apply U | apply Y | apply E) | exact HB.out)⟩⟩
 case round =>
  clear H';(try clear c1);(try clear p2);obtain ⟨x7_1,rfl,HA,HK1,HB⟩:=hrel
  cases gk with
  | zero=>exact absurd HA.out (by simp [laws_wpCell.l0])
  | succ k1 =>
   have H:=HA.out;clear HA;simp only [laws_wpCell.l0] at H;have HC4:=O H;clear H
   go_upto_region 2 with (fail)
   go_cut [17] (fun v17 wc=>∃ (kq : Nat) (x17_3 : Bool),v17 = .bool x17_3 ∧ Aside0 (laws_wpCell.j1 kq l0 a1 a2 x7_1 x17_3 = some r) ∧ Aside0 (kq ≤ k1) ∧ Aside0 (Below w.heap.size w wc))
   case first =>
    have H:=HC4.out;clear HC4
    by_cases c5 : x7_1 < (l0.length : Int)
    ·rw [if_pos c5] at H;have c5b0 : decide (x7_1 < (l0.length : Int)) = true:=decide_eq_true c5;clear c5
     (first | rw [c5b0] | (simp only [i64_w,i32_w];rw [c5b0]) | skip)
     have H':=O H;clear H
     go_wp2
     go_meet
     case rel=>exact ⟨_,(decide (a2 > 0)),(by first | rfl | (simp;done) | (simp [*];done)),H',⟨by have:=HK1.out;first | omega | exact Nat.le_refl _⟩,⟨by repeat (first | (with_reducible first | exact HB.out | apply U | apply Y | apply E) | exact HB.out)⟩⟩
    ·rw [if_neg c5] at H;have c5b0 : decide (x7_1 < (l0.length : Int)) = false:=decide_eq_false c5;clear c5
     (first | rw [c5b0] | (simp only [i64_w,i32_w];rw [c5b0]) | skip)
     have H':=O H;clear H
     go_wp2
     go_meet
     case rel=>exact ⟨_,(false),(by first | rfl | (simp;done) | (simp [*];done)),H',⟨by have:=HK1.out;first | omega | exact Nat.le_refl _⟩,⟨by repeat (first | (with_reducible first | exact HB.out | apply U | apply Y | apply E) | exact HB.out)⟩⟩
   case rest =>
    clear HC4;(try clear c1);(try clear p2);(try clear c5);(try clear c5b0);(try clear p2);obtain ⟨kq,x17_3,rfl,HA,HJ3,HB⟩:=hcut
    cases kq with
    | zero=>exact absurd HA.out (by simp [laws_wpCell.j1])
    | succ kj3 =>
     have H:=HA.out;clear HA;simp only [laws_wpCell.j1] at H
     by_cases c6 : x17_3 = true
     ·subst c6
      have H1 : (if 0 ≤ x7_1 then (if x7_1 < (l0.length : Int) then (if ((rd_T41 l0 x7_1).f0) = 9 then (laws_wpCell.j2 kj3 l0 a1 a2 x7_1 ((M (3 + ((rd_T41 l0 x7_1).f1))) == a1) ((rd_T41 l0 x7_1).f0) ((rd_T41 l0 x7_1).f1) ((rd_T41 l0 x7_1).f2) ((rd_T41 l0 x7_1).f3) ((rd_T41 l0 x7_1).f4) ((rd_T41 l0 x7_1).f5)) else (if ((rd_T41 l0 x7_1).f0) = 10 then (laws_wpCell.j2 kj3 l0 a1 a2 x7_1 ((M (3 + ((rd_T41 l0 x7_1).f1))) == a1) ((rd_T41 l0 x7_1).f0) ((rd_T41 l0 x7_1).f1) ((rd_T41 l0 x7_1).f2) ((rd_T41 l0 x7_1).f3) ((rd_T41 l0 x7_1).f4) ((rd_T41 l0 x7_1).f5)) else (laws_wpCell.j2 kj3 l0 a1 a2 x7_1 false ((rd_T41 l0 x7_1).f0) ((rd_T41 l0 x7_1).f1) ((rd_T41 l0 x7_1).f2) ((rd_T41 l0 x7_1).f3) ((rd_T41 l0 x7_1).f4) ((rd_T41 l0 x7_1).f5)))) else (none)) else (none)) = some r:=by rw [if_pos rfl] at H;exact H
      clear H;have H:=H1;clear H1
      by_cases c7 : 0 ≤ x7_1
      ·rw [if_pos c7] at H;have c7b0 : decide (0 ≤ x7_1) = true:=decide_eq_true c7;clear c7
       by_cases c8 : x7_1 < (l0.length : Int)
       ·rw [if_pos c8] at H;have c8b0 : decide (x7_1 < (l0.length : Int)) = true:=decide_eq_true c8;clear c8;have HC9:=O H;clear H
        have p417 : 0 ≤ (x7_1 : Int):=of_decide_eq_true (by first | (with_reducible assumption) | assumption)
        have q417 : x7_1 < (l0.length : Int):=of_decide_eq_true (by first | (with_reducible assumption) | assumption)
        obtain ⟨ad417,A417_4,c417_4,A417_5,c417_5,e417,hx417_0,hx417_1,hx417_2,hx417_3,hx417_4,hx417_5,hl417_4,hi417_4,hl417_5,hi417_5⟩:=at_T41 HR0.out x7_1 p417 q417
        cases e417
        replace hx417_0:=(HB.out.cell (World.block_lt_of_cell? w _ hx417_0)).trans hx417_0;replace hx417_1:=(HB.out.cell (World.block_lt_of_cell? w _ hx417_1)).trans hx417_1;replace hx417_2:=(HB.out.cell (World.block_lt_of_cell? w _ hx417_2)).trans hx417_2;replace hx417_3:=(HB.out.cell (World.block_lt_of_cell? w _ hx417_3)).trans hx417_3;replace hx417_4:=(HB.out.cell (World.block_lt_of_cell? w _ hx417_4)).trans hx417_4;replace hx417_5:=(HB.out.cell (World.block_lt_of_cell? w _ hx417_5)).trans hx417_5;have HR417_4:=O hi417_4;have HC417_4:=O hl417_4;clear hi417_4 hl417_4;have HR417_5:=O hi417_5;have HC417_5:=O hl417_5;clear hi417_5 hl417_5;replace p417:=eq_true p417;replace q417:=eq_true q417
        go_upto_region 5 with (first | ((with_reducible refine gate_dst (N:=8) rfl ?_);refine box_event ?hg (N:=8) ?hd (cs:=#[.int .i64 0,.int .i64 0,.int .i64 0,.int .i64 0,.slice none 0 0,.slice none 0 0]) (t:=41) ?hr ?_;(case hd=>rfl);(case hg=>rfl);(case hr=>first | (go_simp;done) | (go_simp;rfl));intro gb418 hg w10 hbox hb;have n0_:=O (X (q3_ HB) hb);have n1_:=O (hbox);have n2_:=O ((by rw [hg];exact (below_size (q3_ HB)) : w.heap.size ≤ gb418));have n3_:=O ((by rw [hg];exact (below_size (q3_ HB)) : w.heap.size ≤ gb418));clear HB;have HB:=n0_;have BK418:=n1_;have GW418:=n2_;have GE418:=n3_;clear n0_ n1_ n2_ n3_ hb hbox hg;obtain ⟨hcz11_0,hcz11_1,hcz11_2,hcz11_3,hcz11_4,hcz11_5,hfz11_0,hfz11_1,hfz11_2,hfz11_3,hfz11_4,hfz11_5⟩:=bz6_ BK418))
        (try simp only [Act.put,List.setIfInBounds_toArray,List.set_cons_zero,List.set_cons_succ])
        go_cut [9] (fun v9 wc=>∃ (kq : Nat) (x9_8 : Bool),v9 = .bool x9_8 ∧ Aside0 (laws_wpCell.j2 kq l0 a1 a2 x7_1 x9_8 ((rd_T41 l0 x7_1).f0) ((rd_T41 l0 x7_1).f1) ((rd_T41 l0 x7_1).f2) ((rd_T41 l0 x7_1).f3) ((rd_T41 l0 x7_1).f4) ((rd_T41 l0 x7_1).f5) = some r) ∧ Aside0 (kq ≤ kj3) ∧ Aside0 (wc.heap[gb418]? = some (.cells #[.int .i64 ((rd_T41 l0 x7_1).f0),.int .i64 ((rd_T41 l0 x7_1).f1),.int .i64 ((rd_T41 l0 x7_1).f2),.int .i64 ((rd_T41 l0 x7_1).f3),(.slice A417_4 ((rd_T41 l0 x7_1).f4).length c417_4),(.slice A417_5 ((rd_T41 l0 x7_1).f5).length c417_5)] 41 (0,0))) ∧ Aside0 (Below w.heap.size w wc))
        case first =>
         have H:=HC9.out;clear HC9
         by_cases c12 : ((rd_T41 l0 x7_1).f0) = 9
         ·rw [if_pos c12] at H;have c12b0 : (((rd_T41 l0 x7_1).f0) == 9) = true:=beq_iff_eq.mpr c12;have c12b1 : (((rd_T41 l0 x7_1).f0) != 9) = false:=bne_eq_false_iff_eq.mpr c12;clear c12
          (first | rw [c12b0] | (simp only [i64_w,i32_w];rw [c12b0]) | skip)
          have H':=O H;clear H;have hcz13_0 : w10.cell? ⟨gb418,0,none⟩ = some (.int .i64 0):=(J BK418.out 0).trans rfl;have hcz13_1 : w10.cell? ⟨gb418,1,none⟩ = some (.int .i64 0):=(J BK418.out 1).trans rfl;have hcz13_2 : w10.cell? ⟨gb418,2,none⟩ = some (.int .i64 0):=(J BK418.out 2).trans rfl;have hcz13_3 : w10.cell? ⟨gb418,3,none⟩ = some (.int .i64 0):=(J BK418.out 3).trans rfl;have hcz13_4 : w10.cell? ⟨gb418,4,none⟩ = some (.slice none 0 0):=(J BK418.out 4).trans rfl;have hcz13_5 : w10.cell? ⟨gb418,5,none⟩ = some (.slice none 0 0):=(J BK418.out 5).trans rfl;have hfz13_0:=Z BK418.out 0;have hfz13_1:=Z BK418.out 1;have hfz13_2:=Z BK418.out 2;have hfz13_3:=Z BK418.out 3;have hfz13_4:=Z BK418.out 4;have hfz13_5:=Z BK418.out 5
          go_wp2
          go_meet
          case rel=>exact ⟨_,(((M (3 + ((rd_T41 l0 x7_1).f1))) == a1)),(by first | rfl | (simp;done) | (simp [*];done)),H',⟨by have:=HK1.out;have:=HJ3.out;first | omega | exact Nat.le_refl _⟩,⟨by (with_reducible repeat (first | refine blk_drewN ?_ _ | refine blk_drew ?_ | refine blk_alloc ?_ _));apply bp6_5_;(with_reducible repeat (first | refine blk_drewN ?_ _ | refine blk_drew ?_ | refine blk_alloc ?_ _));apply bp6_4_;(with_reducible repeat (first | refine blk_drewN ?_ _ | refine blk_drew ?_ | refine blk_alloc ?_ _));apply bp6_3_;(with_reducible repeat (first | refine blk_drewN ?_ _ | refine blk_drew ?_ | refine blk_alloc ?_ _));apply bp6_2_;(with_reducible repeat (first | refine blk_drewN ?_ _ | refine blk_drew ?_ | refine blk_alloc ?_ _));apply bp6_1_;(with_reducible repeat (first | refine blk_drewN ?_ _ | refine blk_drew ?_ | refine blk_alloc ?_ _));apply bp6_0_;(with_reducible repeat (first | refine blk_drewN ?_ _ | refine blk_drew ?_ | refine blk_alloc ?_ _));exact BK418.out⟩,⟨by repeat (first | (with_reducible first | exact HB.out | apply U | apply Y | apply E | refine G ?_ GE418.out) | exact HB.out)⟩⟩
         ·rw [if_neg c12] at H;have c12b0 : (((rd_T41 l0 x7_1).f0) == 9) = false:=beq_eq_false_iff_ne.mpr c12;have c12b1 : (((rd_T41 l0 x7_1).f0) != 9) = true:=bne_iff_ne.mpr c12
          (first | rw [c12b0] | (simp only [i64_w,i32_w];rw [c12b0]) | skip)
          by_cases c14 : ((rd_T41 l0 x7_1).f0) = 10
          ·rw [if_pos c14] at H;have c14b0 : (((rd_T41 l0 x7_1).f0) == 10) = true:=beq_iff_eq.mpr c14;have c14b1 : (((rd_T41 l0 x7_1).f0) != 10) = false:=bne_eq_false_iff_eq.mpr c14;clear c14;have H':=O H;clear H;have hcz15_0 : w10.cell? ⟨gb418,0,none⟩ = some (.int .i64 0):=(J BK418.out 0).trans rfl;have hcz15_1 : w10.cell? ⟨gb418,1,none⟩ = some (.int .i64 0):=(J BK418.out 1).trans rfl;have hcz15_2 : w10.cell? ⟨gb418,2,none⟩ = some (.int .i64 0):=(J BK418.out 2).trans rfl;have hcz15_3 : w10.cell? ⟨gb418,3,none⟩ = some (.int .i64 0):=(J BK418.out 3).trans rfl;have hcz15_4 : w10.cell? ⟨gb418,4,none⟩ = some (.slice none 0 0):=(J BK418.out 4).trans rfl;have hcz15_5 : w10.cell? ⟨gb418,5,none⟩ = some (.slice none 0 0):=(J BK418.out 5).trans rfl;have hfz15_0:=Z BK418.out 0;have hfz15_1:=Z BK418.out 1;have hfz15_2:=Z BK418.out 2;have hfz15_3:=Z BK418.out 3;have hfz15_4:=Z BK418.out 4;have hfz15_5:=Z BK418.out 5
           go_wp2
           go_meet
           case rel=>exact ⟨_,(((M (3 + ((rd_T41 l0 x7_1).f1))) == a1)),(by first | rfl | (simp;done) | (simp [*];done)),H',⟨by have:=HK1.out;have:=HJ3.out;first | omega | exact Nat.le_refl _⟩,⟨by (with_reducible repeat (first | refine blk_drewN ?_ _ | refine blk_drew ?_ | refine blk_alloc ?_ _));apply bp6_5_;(with_reducible repeat (first | refine blk_drewN ?_ _ | refine blk_drew ?_ | refine blk_alloc ?_ _));apply bp6_4_;(with_reducible repeat (first | refine blk_drewN ?_ _ | refine blk_drew ?_ | refine blk_alloc ?_ _));apply bp6_3_;(with_reducible repeat (first | refine blk_drewN ?_ _ | refine blk_drew ?_ | refine blk_alloc ?_ _));apply bp6_2_;(with_reducible repeat (first | refine blk_drewN ?_ _ | refine blk_drew ?_ | refine blk_alloc ?_ _));apply bp6_1_;(with_reducible repeat (first | refine blk_drewN ?_ _ | refine blk_drew ?_ | refine blk_alloc ?_ _));apply bp6_0_;(with_reducible repeat (first | refine blk_drewN ?_ _ | refine blk_drew ?_ | refine blk_alloc ?_ _));exact BK418.out⟩,⟨by repeat (first | (with_reducible first | exact HB.out | apply U | apply Y | apply E | refine G ?_ GE418.out) | exact HB.out)⟩⟩
          ·rw [if_neg c14] at H;have c14b0 : (((rd_T41 l0 x7_1).f0) == 10) = false:=beq_eq_false_iff_ne.mpr c14;have c14b1 : (((rd_T41 l0 x7_1).f0) != 10) = true:=bne_iff_ne.mpr c14;have H':=O H;clear H;have hcz16_0 : w10.cell? ⟨gb418,0,none⟩ = some (.int .i64 0):=(J BK418.out 0).trans rfl;have hcz16_1 : w10.cell? ⟨gb418,1,none⟩ = some (.int .i64 0):=(J BK418.out 1).trans rfl;have hcz16_2 : w10.cell? ⟨gb418,2,none⟩ = some (.int .i64 0):=(J BK418.out 2).trans rfl;have hcz16_3 : w10.cell? ⟨gb418,3,none⟩ = some (.int .i64 0):=(J BK418.out 3).trans rfl;have hcz16_4 : w10.cell? ⟨gb418,4,none⟩ = some (.slice none 0 0):=(J BK418.out 4).trans rfl;have hcz16_5 : w10.cell? ⟨gb418,5,none⟩ = some (.slice none 0 0):=(J BK418.out 5).trans rfl;have hfz16_0:=Z BK418.out 0;have hfz16_1:=Z BK418.out 1;have hfz16_2:=Z BK418.out 2;have hfz16_3:=Z BK418.out 3;have hfz16_4:=Z BK418.out 4;have hfz16_5:=Z BK418.out 5
           go_wp2
           go_meet
           case rel=>exact ⟨_,(false),(by first | rfl | (simp;done) | (simp [*];done)),H',⟨by have:=HK1.out;have:=HJ3.out;first | omega | exact Nat.le_refl _⟩,⟨by (with_reducible repeat (first | refine blk_drewN ?_ _ | refine blk_drew ?_ | refine blk_alloc ?_ _));apply bp6_5_;(with_reducible repeat (first | refine blk_drewN ?_ _ | refine blk_drew ?_ | refine blk_alloc ?_ _));apply bp6_4_;(with_reducible repeat (first | refine blk_drewN ?_ _ | refine blk_drew ?_ | refine blk_alloc ?_ _));apply bp6_3_;(with_reducible repeat (first | refine blk_drewN ?_ _ | refine blk_drew ?_ | refine blk_alloc ?_ _));apply bp6_2_;(with_reducible repeat (first | refine blk_drewN ?_ _ | refine blk_drew ?_ | refine blk_alloc ?_ _));apply bp6_1_;(with_reducible repeat (first | refine blk_drewN ?_ _ | refine blk_drew ?_ | refine blk_alloc ?_ _));apply bp6_0_;(with_reducible repeat (first | refine blk_drewN ?_ _ | refine blk_drew ?_ | refine blk_alloc ?_ _));exact BK418.out⟩,⟨by repeat (first | (with_reducible first | exact HB.out | apply U | apply Y | apply E | refine G ?_ GE418.out) | exact HB.out)⟩⟩
        case rest =>
         clear HC9;(try clear c1);(try clear p2);(try clear c4);(try clear p4);(try clear q4);(try clear hx4);(try clear c5);(try clear c5b0);(try clear c6);(try clear p6);(try clear c7);(try clear c7b0);(try clear c8);(try clear c8b0);(try clear c12);(try clear c12b0);(try clear c12b1);(try clear c14);(try clear c14b0);(try clear c14b1);(try clear hcz11_0);(try clear hcz11_1);(try clear hcz11_2);(try clear hcz11_3);(try clear hcz11_4);(try clear hcz11_5);(try clear hcz13_0);(try clear hcz13_1);(try clear hcz13_2);(try clear hcz13_3);(try clear hcz13_4);(try clear hcz13_5);(try clear hcz15_0);(try clear hcz15_1);(try clear hcz15_2);(try clear hcz15_3);(try clear hcz15_4);(try clear hcz15_5);(try clear hcz16_0);(try clear hcz16_1);(try clear hcz16_2);(try clear hcz16_3);(try clear hcz16_4);(try clear hcz16_5);(try clear hfz11_0);(try clear hfz11_1);(try clear hfz11_2);(try clear hfz11_3);(try clear hfz11_4);(try clear hfz11_5);(try clear hfz13_0);(try clear hfz13_1);(try clear hfz13_2);(try clear hfz13_3);(try clear hfz13_4);(try clear hfz13_5);(try clear hfz15_0);(try clear hfz15_1);(try clear hfz15_2);(try clear hfz15_3);(try clear hfz15_4);(try clear hfz15_5);(try clear hfz16_0);(try clear hfz16_1);(try clear hfz16_2);(try clear hfz16_3);(try clear hfz16_4);(try clear hfz16_5);(try clear hx417_0);(try clear hx417_1);(try clear hx417_2);(try clear hx417_3);(try clear hx417_4);(try clear hx417_5);(try clear p2);(try clear p417);(try clear q417);obtain ⟨kq,x9_8,rfl,HA,HJ8,BK418,HB⟩:=hcut
         cases kq with
         | zero=>exact absurd HA.out (by simp [laws_wpCell.j2])
         | succ kj8 =>
          have H:=HA.out;clear HA;simp only [laws_wpCell.j2] at H
          by_cases c17 : x9_8 = true
          ·subst c17
           have H1 : (some true) = some r:=by rw [if_pos rfl] at H;exact H
           clear H;have H:=H1;clear H1;obtain rfl:=D H
           go_wp2
           go_ret
           exact ⟨by first | rfl | (simp [T,S] <;> rfl) | (simp [*,T,S] <;> rfl),by repeat (first | (with_reducible first | exact HB.out | apply U | apply Y | apply E | refine G ?_ GE418.out) | exact HB.out)⟩
          ·replace c17:=Bool.eq_false_iff.mpr c17;subst c17
           have H1 : (if ((rd_T41 l0 x7_1).f0) = 3 then (if ((rd_T41 l0 x7_1).f2) = a1 then (some true) else (if ((rd_T41 l0 x7_1).f0) = 4 then (if ((rd_T41 l0 x7_1).f1) = a1 then (some true) else ((laws_wpCell.f kj8 ((rd_T41 l0 x7_1).f4) a1 (M (a2 - 1))).bind fun t419=>(if t419 = true then (some true) else ((laws_wpCell.f kj8 ((rd_T41 l0 x7_1).f5) a1 (M (a2 - 1))).bind fun t420=>(if t420 = true then (some true) else (laws_wpCell.l0 kj8 l0 a1 a2 (M (x7_1 + 1)))))))) else ((laws_wpCell.f kj8 ((rd_T41 l0 x7_1).f4) a1 (M (a2 - 1))).bind fun t421=>(if t421 = true then (some true) else ((laws_wpCell.f kj8 ((rd_T41 l0 x7_1).f5) a1 (M (a2 - 1))).bind fun t422=>(if t422 = true then (some true) else (laws_wpCell.l0 kj8 l0 a1 a2 (M (x7_1 + 1))))))))) else (if ((rd_T41 l0 x7_1).f0) = 4 then (if ((rd_T41 l0 x7_1).f1) = a1 then (some true) else ((laws_wpCell.f kj8 ((rd_T41 l0 x7_1).f4) a1 (M (a2 - 1))).bind fun t423=>(if t423 = true then (some true) else ((laws_wpCell.f kj8 ((rd_T41 l0 x7_1).f5) a1 (M (a2 - 1))).bind fun t424=>(if t424 = true then (some true) else (laws_wpCell.l0 kj8 l0 a1 a2 (M (x7_1 + 1)))))))) else ((laws_wpCell.f kj8 ((rd_T41 l0 x7_1).f4) a1 (M (a2 - 1))).bind fun t425=>(if t425 = true then (some true) else ((laws_wpCell.f kj8 ((rd_T41 l0 x7_1).f5) a1 (M (a2 - 1))).bind fun t426=>(if t426 = true then (some true) else (laws_wpCell.l0 kj8 l0 a1 a2 (M (x7_1 + 1))))))))) = some r:=by rw [if_neg (show ¬ (false = true) by decide)] at H;exact H
           clear H;have H:=H1;clear H1
           by_cases c18 : ((rd_T41 l0 x7_1).f0) = 3
           ·rw [if_pos c18] at H;have c18b0 : (((rd_T41 l0 x7_1).f0) == 3) = true:=beq_iff_eq.mpr c18;have c18b1 : (((rd_T41 l0 x7_1).f0) != 3) = false:=bne_eq_false_iff_eq.mpr c18;clear c18
            by_cases c19 : ((rd_T41 l0 x7_1).f2) = a1
            ·rw [if_pos c19] at H;have c19b0 : (((rd_T41 l0 x7_1).f2) == a1) = true:=beq_iff_eq.mpr c19;have c19b1 : (((rd_T41 l0 x7_1).f2) != a1) = false:=bne_eq_false_iff_eq.mpr c19;clear c19;obtain rfl:=D H;have hcz20_0 : wc.cell? ⟨gb418,0,none⟩ = some (.int .i64 ((rd_T41 l0 x7_1).f0)):=(J BK418.out 0).trans rfl;have hcz20_1 : wc.cell? ⟨gb418,1,none⟩ = some (.int .i64 ((rd_T41 l0 x7_1).f1)):=(J BK418.out 1).trans rfl;have hcz20_2 : wc.cell? ⟨gb418,2,none⟩ = some (.int .i64 ((rd_T41 l0 x7_1).f2)):=(J BK418.out 2).trans rfl;have hcz20_3 : wc.cell? ⟨gb418,3,none⟩ = some (.int .i64 ((rd_T41 l0 x7_1).f3)):=(J BK418.out 3).trans rfl;have hcz20_4 : wc.cell? ⟨gb418,4,none⟩ = some (.slice A417_4 ((rd_T41 l0 x7_1).f4).length c417_4):=(J BK418.out 4).trans rfl;have hcz20_5 : wc.cell? ⟨gb418,5,none⟩ = some (.slice A417_5 ((rd_T41 l0 x7_1).f5).length c417_5):=(J BK418.out 5).trans rfl;have hfz20_0:=Z BK418.out 0;have hfz20_1:=Z BK418.out 1;have hfz20_2:=Z BK418.out 2;have hfz20_3:=Z BK418.out 3;have hfz20_4:=Z BK418.out 4;have hfz20_5:=Z BK418.out 5
             go_wp2
             go_ret
             exact ⟨by first | rfl | (simp [T,S] <;> rfl) | (simp [*,T,S] <;> rfl),by repeat (first | (with_reducible first | exact HB.out | apply U | apply Y | apply E | refine G ?_ GE418.out) | exact HB.out)⟩
            ·rw [if_neg c19] at H;have c19b0 : (((rd_T41 l0 x7_1).f2) == a1) = false:=beq_eq_false_iff_ne.mpr c19;have c19b1 : (((rd_T41 l0 x7_1).f2) != a1) = true:=bne_iff_ne.mpr c19
             by_cases c21 : ((rd_T41 l0 x7_1).f0) = 4
             ·rw [if_pos c21] at H;have c21b0 : (((rd_T41 l0 x7_1).f0) == 4) = true:=beq_iff_eq.mpr c21;have c21b1 : (((rd_T41 l0 x7_1).f0) != 4) = false:=bne_eq_false_iff_eq.mpr c21;clear c21
              by_cases c22 : ((rd_T41 l0 x7_1).f1) = a1
              ·rw [if_pos c22] at H;have c22b0 : (((rd_T41 l0 x7_1).f1) == a1) = true:=beq_iff_eq.mpr c22;have c22b1 : (((rd_T41 l0 x7_1).f1) != a1) = false:=bne_eq_false_iff_eq.mpr c22;clear c22;obtain rfl:=D H;have hcz23_0 : wc.cell? ⟨gb418,0,none⟩ = some (.int .i64 ((rd_T41 l0 x7_1).f0)):=(J BK418.out 0).trans rfl;have hcz23_1 : wc.cell? ⟨gb418,1,none⟩ = some (.int .i64 ((rd_T41 l0 x7_1).f1)):=(J BK418.out 1).trans rfl;have hcz23_2 : wc.cell? ⟨gb418,2,none⟩ = some (.int .i64 ((rd_T41 l0 x7_1).f2)):=(J BK418.out 2).trans rfl;have hcz23_3 : wc.cell? ⟨gb418,3,none⟩ = some (.int .i64 ((rd_T41 l0 x7_1).f3)):=(J BK418.out 3).trans rfl;have hcz23_4 : wc.cell? ⟨gb418,4,none⟩ = some (.slice A417_4 ((rd_T41 l0 x7_1).f4).length c417_4):=(J BK418.out 4).trans rfl;have hcz23_5 : wc.cell? ⟨gb418,5,none⟩ = some (.slice A417_5 ((rd_T41 l0 x7_1).f5).length c417_5):=(J BK418.out 5).trans rfl;have hfz23_0:=Z BK418.out 0;have hfz23_1:=Z BK418.out 1;have hfz23_2:=Z BK418.out 2;have hfz23_3:=Z BK418.out 3;have hfz23_4:=Z BK418.out 4;have hfz23_5:=Z BK418.out 5
               go_wp2
               go_ret
               exact ⟨by first | rfl | (simp [T,S] <;> rfl) | (simp [*,T,S] <;> rfl),by repeat (first | (with_reducible first | exact HB.out | apply U | apply Y | apply E | refine G ?_ GE418.out) | exact HB.out)⟩
              ·rw [if_neg c22] at H;have c22b0 : (((rd_T41 l0 x7_1).f1) == a1) = false:=beq_eq_false_iff_ne.mpr c22;have c22b1 : (((rd_T41 l0 x7_1).f1) != a1) = true:=bne_iff_ne.mpr c22;replace H:=L.mp H;obtain ⟨t419,A240,H⟩:=H;replace H : (if t419 = true then (some true) else ((laws_wpCell.f kj8 ((rd_T41 l0 x7_1).f5) a1 (M (a2 - 1))).bind fun t420=>(if t420 = true then (some true) else (laws_wpCell.l0 kj8 l0 a1 a2 (M (x7_1 + 1)))))) = some r:=H;have A24:=O A240;clear A240
               by_cases c25 : t419 = true
               ·subst c25
                have H1 : (some true) = some r:=by rw [if_pos rfl] at H;exact H
                clear H;have H:=H1;clear H1;obtain rfl:=D H;have hcz26_0 : wc.cell? ⟨gb418,0,none⟩ = some (.int .i64 ((rd_T41 l0 x7_1).f0)):=(J BK418.out 0).trans rfl;have hcz26_1 : wc.cell? ⟨gb418,1,none⟩ = some (.int .i64 ((rd_T41 l0 x7_1).f1)):=(J BK418.out 1).trans rfl;have hcz26_2 : wc.cell? ⟨gb418,2,none⟩ = some (.int .i64 ((rd_T41 l0 x7_1).f2)):=(J BK418.out 2).trans rfl;have hcz26_3 : wc.cell? ⟨gb418,3,none⟩ = some (.int .i64 ((rd_T41 l0 x7_1).f3)):=(J BK418.out 3).trans rfl;have hcz26_4 : wc.cell? ⟨gb418,4,none⟩ = some (.slice A417_4 ((rd_T41 l0 x7_1).f4).length c417_4):=(J BK418.out 4).trans rfl;have hcz26_5 : wc.cell? ⟨gb418,5,none⟩ = some (.slice A417_5 ((rd_T41 l0 x7_1).f5).length c417_5):=(J BK418.out 5).trans rfl;have hfz26_0:=Z BK418.out 0;have hfz26_1:=Z BK418.out 1;have hfz26_2:=Z BK418.out 2;have hfz26_3:=Z BK418.out 3;have hfz26_4:=Z BK418.out 4;have hfz26_5:=Z BK418.out 5
                go_wp2_with (first | (go_at_call 17;(with_reducible refine (ih kj8 (by have:=HK1.out;have:=HJ3.out;have:=HJ8.out;omega) _ _ ((rd_T41 l0 x7_1).f4) a1 (M (a2 - 1)) true _ ?side1 ?side2 A24.out).mono ?_);(case side1=>repeat (first | exact (Kd.C_below HR417_4.out HB.out) | (with_reducible refine Q ?_ _) | (with_reducible refine W ?_ _) | (with_reducible refine V ?_)));(case side2=>exact HC417_4.out);rintro e w27 ⟨rfl,hb⟩;have n0_:=O (blk_below (g:=gb418) (o:=.cells #[.int .i64 ((rd_T41 l0 x7_1).f0),.int .i64 ((rd_T41 l0 x7_1).f1),.int .i64 ((rd_T41 l0 x7_1).f2),.int .i64 ((rd_T41 l0 x7_1).f3),.slice A417_4 ((rd_T41 l0 x7_1).f4).length c417_4,.slice A417_5 ((rd_T41 l0 x7_1).f5).length c417_5] 41 (0,0)) (q4_ BK418) hb);have n1_:=O (X (q5_ HB GE418) hb);clear BK418 HB;have BK418:=n0_;have HB:=n1_;clear n0_ n1_;(try clear hb)))
                go_ret
                exact ⟨by first | rfl | (simp [T,S] <;> rfl) | (simp [*,T,S] <;> rfl),by repeat (first | (with_reducible first | exact HB.out | apply U | apply Y | apply E | refine G ?_ GE418.out) | exact HB.out)⟩
               ·replace c25:=Bool.eq_false_iff.mpr c25;subst c25
                have H1 : ((laws_wpCell.f kj8 ((rd_T41 l0 x7_1).f5) a1 (M (a2 - 1))).bind fun t420=>(if t420 = true then (some true) else (laws_wpCell.l0 kj8 l0 a1 a2 (M (x7_1 + 1))))) = some r:=by rw [if_neg (show ¬ (false = true) by decide)] at H;exact H
                clear H;have H:=H1;clear H1;replace H:=L.mp H;obtain ⟨t420,A280,H⟩:=H;replace H : (if t420 = true then (some true) else (laws_wpCell.l0 kj8 l0 a1 a2 (M (x7_1 + 1)))) = some r:=H;have A28:=O A280;clear A280
                by_cases c29 : t420 = true
                ·subst c29
                 have H1 : (some true) = some r:=by rw [if_pos rfl] at H;exact H
                 clear H;have H:=H1;clear H1;obtain rfl:=D H;have hcz30_0 : wc.cell? ⟨gb418,0,none⟩ = some (.int .i64 ((rd_T41 l0 x7_1).f0)):=(J BK418.out 0).trans rfl;have hcz30_1 : wc.cell? ⟨gb418,1,none⟩ = some (.int .i64 ((rd_T41 l0 x7_1).f1)):=(J BK418.out 1).trans rfl;have hcz30_2 : wc.cell? ⟨gb418,2,none⟩ = some (.int .i64 ((rd_T41 l0 x7_1).f2)):=(J BK418.out 2).trans rfl;have hcz30_3 : wc.cell? ⟨gb418,3,none⟩ = some (.int .i64 ((rd_T41 l0 x7_1).f3)):=(J BK418.out 3).trans rfl;have hcz30_4 : wc.cell? ⟨gb418,4,none⟩ = some (.slice A417_4 ((rd_T41 l0 x7_1).f4).length c417_4):=(J BK418.out 4).trans rfl;have hcz30_5 : wc.cell? ⟨gb418,5,none⟩ = some (.slice A417_5 ((rd_T41 l0 x7_1).f5).length c417_5):=(J BK418.out 5).trans rfl;have hfz30_0:=Z BK418.out 0;have hfz30_1:=Z BK418.out 1;have hfz30_2:=Z BK418.out 2;have hfz30_3:=Z BK418.out 3;have hfz30_4:=Z BK418.out 4;have hfz30_5:=Z BK418.out 5
                 go_wp2_with (first | (go_at_call 17;(with_reducible refine (ih kj8 (by have:=HK1.out;have:=HJ3.out;have:=HJ8.out;omega) _ _ ((rd_T41 l0 x7_1).f4) a1 (M (a2 - 1)) false _ ?side1 ?side2 A24.out).mono ?_);(case side1=>repeat (first | exact (Kd.C_below HR417_4.out HB.out) | (with_reducible refine Q ?_ _) | (with_reducible refine W ?_ _) | (with_reducible refine V ?_)));(case side2=>exact HC417_4.out);rintro e w31 ⟨rfl,hb⟩;have n0_:=O (blk_below (g:=gb418) (o:=.cells #[.int .i64 ((rd_T41 l0 x7_1).f0),.int .i64 ((rd_T41 l0 x7_1).f1),.int .i64 ((rd_T41 l0 x7_1).f2),.int .i64 ((rd_T41 l0 x7_1).f3),.slice A417_4 ((rd_T41 l0 x7_1).f4).length c417_4,.slice A417_5 ((rd_T41 l0 x7_1).f5).length c417_5] 41 (0,0)) (q4_ BK418) hb);have n1_:=O (X (q5_ HB GE418) hb);clear BK418 HB;have BK418:=n0_;have HB:=n1_;clear n0_ n1_;(try clear hb);obtain ⟨hcz32_0,hcz32_1,hcz32_2,hcz32_3,hcz32_4,hcz32_5,hfz32_0,hfz32_1,hfz32_2,hfz32_3,hfz32_4,hfz32_5⟩:=bz6_ BK418) | (go_at_call 17;(with_reducible refine (ih kj8 (by have:=HK1.out;have:=HJ3.out;have:=HJ8.out;omega) _ _ ((rd_T41 l0 x7_1).f5) a1 (M (a2 - 1)) true _ ?side1 ?side2 A28.out).mono ?_);(case side1=>repeat (first | exact (Kd.C_below HR417_5.out HB.out) | (with_reducible refine Q ?_ _) | (with_reducible refine W ?_ _) | (with_reducible refine V ?_)));(case side2=>exact HC417_5.out);rintro e w33 ⟨rfl,hb⟩;have n0_:=O (blk_below (g:=gb418) (o:=.cells #[.int .i64 ((rd_T41 l0 x7_1).f0),.int .i64 ((rd_T41 l0 x7_1).f1),.int .i64 ((rd_T41 l0 x7_1).f2),.int .i64 ((rd_T41 l0 x7_1).f3),.slice A417_4 ((rd_T41 l0 x7_1).f4).length c417_4,.slice A417_5 ((rd_T41 l0 x7_1).f5).length c417_5] 41 (0,0)) (q4_ BK418) hb);have n1_:=O (X (q5_ HB GE418) hb);clear BK418 HB;have BK418:=n0_;have HB:=n1_;clear n0_ n1_;(try clear hb)))
                 go_ret
                 exact ⟨by first | rfl | (simp [T,S] <;> rfl) | (simp [*,T,S] <;> rfl),by repeat (first | (with_reducible first | exact HB.out | apply U | apply Y | apply E | refine G ?_ GE418.out) | exact HB.out)⟩
                ·replace c29:=Bool.eq_false_iff.mpr c29;subst c29
                 have H1 : (laws_wpCell.l0 kj8 l0 a1 a2 (M (x7_1 + 1))) = some r:=by rw [if_neg (show ¬ (false = true) by decide)] at H;exact H
                 clear H;have H:=H1;clear H1;have H':=O H;clear H;have hcz34_0 : wc.cell? ⟨gb418,0,none⟩ = some (.int .i64 ((rd_T41 l0 x7_1).f0)):=(J BK418.out 0).trans rfl;have hcz34_1 : wc.cell? ⟨gb418,1,none⟩ = some (.int .i64 ((rd_T41 l0 x7_1).f1)):=(J BK418.out 1).trans rfl;have hcz34_2 : wc.cell? ⟨gb418,2,none⟩ = some (.int .i64 ((rd_T41 l0 x7_1).f2)):=(J BK418.out 2).trans rfl;have hcz34_3 : wc.cell? ⟨gb418,3,none⟩ = some (.int .i64 ((rd_T41 l0 x7_1).f3)):=(J BK418.out 3).trans rfl;have hcz34_4 : wc.cell? ⟨gb418,4,none⟩ = some (.slice A417_4 ((rd_T41 l0 x7_1).f4).length c417_4):=(J BK418.out 4).trans rfl;have hcz34_5 : wc.cell? ⟨gb418,5,none⟩ = some (.slice A417_5 ((rd_T41 l0 x7_1).f5).length c417_5):=(J BK418.out 5).trans rfl;have hfz34_0:=Z BK418.out 0;have hfz34_1:=Z BK418.out 1;have hfz34_2:=Z BK418.out 2;have hfz34_3:=Z BK418.out 3;have hfz34_4:=Z BK418.out 4;have hfz34_5:=Z BK418.out 5
                 go_wp2_with (first | (go_at_call 17;(with_reducible refine (ih kj8 (by have:=HK1.out;have:=HJ3.out;have:=HJ8.out;omega) _ _ ((rd_T41 l0 x7_1).f4) a1 (M (a2 - 1)) false _ ?side1 ?side2 A24.out).mono ?_);(case side1=>repeat (first | exact (Kd.C_below HR417_4.out HB.out) | (with_reducible refine Q ?_ _) | (with_reducible refine W ?_ _) | (with_reducible refine V ?_)));(case side2=>exact HC417_4.out);rintro e w35 ⟨rfl,hb⟩;have n0_:=O (blk_below (g:=gb418) (o:=.cells #[.int .i64 ((rd_T41 l0 x7_1).f0),.int .i64 ((rd_T41 l0 x7_1).f1),.int .i64 ((rd_T41 l0 x7_1).f2),.int .i64 ((rd_T41 l0 x7_1).f3),.slice A417_4 ((rd_T41 l0 x7_1).f4).length c417_4,.slice A417_5 ((rd_T41 l0 x7_1).f5).length c417_5] 41 (0,0)) (q4_ BK418) hb);have n1_:=O (X (q5_ HB GE418) hb);clear BK418 HB;have BK418:=n0_;have HB:=n1_;clear n0_ n1_;(try clear hb);obtain ⟨hcz36_0,hcz36_1,hcz36_2,hcz36_3,hcz36_4,hcz36_5,hfz36_0,hfz36_1,hfz36_2,hfz36_3,hfz36_4,hfz36_5⟩:=bz6_ BK418) | (go_at_call 17;(with_reducible refine (ih kj8 (by have:=HK1.out;have:=HJ3.out;have:=HJ8.out;omega) _ _ ((rd_T41 l0 x7_1).f5) a1 (M (a2 - 1)) false _ ?side1 ?side2 A28.out).mono ?_);(case side1=>repeat (first | exact (Kd.C_below HR417_5.out HB.out) | (with_reducible refine Q ?_ _) | (with_reducible refine W ?_ _) | (with_reducible refine V ?_)));(case side2=>exact HC417_5.out);rintro e w37 ⟨rfl,hb⟩;have n0_:=O (blk_below (g:=gb418) (o:=.cells #[.int .i64 ((rd_T41 l0 x7_1).f0),.int .i64 ((rd_T41 l0 x7_1).f1),.int .i64 ((rd_T41 l0 x7_1).f2),.int .i64 ((rd_T41 l0 x7_1).f3),.slice A417_4 ((rd_T41 l0 x7_1).f4).length c417_4,.slice A417_5 ((rd_T41 l0 x7_1).f5).length c417_5] 41 (0,0)) (q4_ BK418) hb);have n1_:=O (X (q5_ HB GE418) hb);clear BK418 HB;have BK418:=n0_;have HB:=n1_;clear n0_ n1_;(try clear hb)))
                 go_roundg kj8
                 case measure=>have:=HK1.out;have:=HJ3.out;have:=HJ8.out;omega
                 case rel=>exact ⟨(M (x7_1 + 1)),(by first | rfl | (simp;done) | (simp [*];done)),H',⟨by have:=HK1.out;have:=HJ3.out;have:=HJ8.out;omega⟩,⟨by repeat (first | (with_reducible first | exact HB.out | apply U | apply Y | apply E | refine G ?_ GE418.out) | exact HB.out)⟩⟩
             ·rw [if_neg c21] at H;have c21b0 : (((rd_T41 l0 x7_1).f0) == 4) = false:=beq_eq_false_iff_ne.mpr c21;have c21b1 : (((rd_T41 l0 x7_1).f0) != 4) = true:=bne_iff_ne.mpr c21;replace H:=L.mp H;obtain ⟨t421,A380,H⟩:=H;replace H : (if t421 = true then (some true) else ((laws_wpCell.f kj8 ((rd_T41 l0 x7_1).f5) a1 (M (a2 - 1))).bind fun t422=>(if t422 = true then (some true) else (laws_wpCell.l0 kj8 l0 a1 a2 (M (x7_1 + 1)))))) = some r:=H;have A38:=O A380;clear A380
              by_cases c39 : t421 = true
              ·subst c39
               have H1 : (some true) = some r:=by rw [if_pos rfl] at H;exact H
               clear H;have H:=H1;clear H1;obtain rfl:=D H;have hcz40_0 : wc.cell? ⟨gb418,0,none⟩ = some (.int .i64 ((rd_T41 l0 x7_1).f0)):=(J BK418.out 0).trans rfl;have hcz40_1 : wc.cell? ⟨gb418,1,none⟩ = some (.int .i64 ((rd_T41 l0 x7_1).f1)):=(J BK418.out 1).trans rfl;have hcz40_2 : wc.cell? ⟨gb418,2,none⟩ = some (.int .i64 ((rd_T41 l0 x7_1).f2)):=(J BK418.out 2).trans rfl;have hcz40_3 : wc.cell? ⟨gb418,3,none⟩ = some (.int .i64 ((rd_T41 l0 x7_1).f3)):=(J BK418.out 3).trans rfl;have hcz40_4 : wc.cell? ⟨gb418,4,none⟩ = some (.slice A417_4 ((rd_T41 l0 x7_1).f4).length c417_4):=(J BK418.out 4).trans rfl;have hcz40_5 : wc.cell? ⟨gb418,5,none⟩ = some (.slice A417_5 ((rd_T41 l0 x7_1).f5).length c417_5):=(J BK418.out 5).trans rfl;have hfz40_0:=Z BK418.out 0;have hfz40_1:=Z BK418.out 1;have hfz40_2:=Z BK418.out 2;have hfz40_3:=Z BK418.out 3;have hfz40_4:=Z BK418.out 4;have hfz40_5:=Z BK418.out 5
               go_wp2_with (first | (go_at_call 17;(with_reducible refine (ih kj8 (by have:=HK1.out;have:=HJ3.out;have:=HJ8.out;omega) _ _ ((rd_T41 l0 x7_1).f4) a1 (M (a2 - 1)) true _ ?side1 ?side2 A38.out).mono ?_);(case side1=>repeat (first | exact (Kd.C_below HR417_4.out HB.out) | (with_reducible refine Q ?_ _) | (with_reducible refine W ?_ _) | (with_reducible refine V ?_)));(case side2=>exact HC417_4.out);rintro e w41 ⟨rfl,hb⟩;have n0_:=O (blk_below (g:=gb418) (o:=.cells #[.int .i64 ((rd_T41 l0 x7_1).f0),.int .i64 ((rd_T41 l0 x7_1).f1),.int .i64 ((rd_T41 l0 x7_1).f2),.int .i64 ((rd_T41 l0 x7_1).f3),.slice A417_4 ((rd_T41 l0 x7_1).f4).length c417_4,.slice A417_5 ((rd_T41 l0 x7_1).f5).length c417_5] 41 (0,0)) (q4_ BK418) hb);have n1_:=O (X (q5_ HB GE418) hb);clear BK418 HB;have BK418:=n0_;have HB:=n1_;clear n0_ n1_;(try clear hb)))
               go_ret
               exact ⟨by first | rfl | (simp [T,S] <;> rfl) | (simp [*,T,S] <;> rfl),by repeat (first | (with_reducible first | exact HB.out | apply U | apply Y | apply E | refine G ?_ GE418.out) | exact HB.out)⟩
              ·replace c39:=Bool.eq_false_iff.mpr c39;subst c39
               have H1 : ((laws_wpCell.f kj8 ((rd_T41 l0 x7_1).f5) a1 (M (a2 - 1))).bind fun t422=>(if t422 = true then (some true) else (laws_wpCell.l0 kj8 l0 a1 a2 (M (x7_1 + 1))))) = some r:=by rw [if_neg (show ¬ (false = true) by decide)] at H;exact H
               clear H;have H:=H1;clear H1;replace H:=L.mp H;obtain ⟨t422,A420,H⟩:=H;replace H : (if t422 = true then (some true) else (laws_wpCell.l0 kj8 l0 a1 a2 (M (x7_1 + 1)))) = some r:=H;have A42:=O A420;clear A420
               by_cases c43 : t422 = true
               ·subst c43
                have H1 : (some true) = some r:=by rw [if_pos rfl] at H;exact H
                clear H;have H:=H1;clear H1;obtain rfl:=D H;have hcz44_0 : wc.cell? ⟨gb418,0,none⟩ = some (.int .i64 ((rd_T41 l0 x7_1).f0)):=(J BK418.out 0).trans rfl;have hcz44_1 : wc.cell? ⟨gb418,1,none⟩ = some (.int .i64 ((rd_T41 l0 x7_1).f1)):=(J BK418.out 1).trans rfl;have hcz44_2 : wc.cell? ⟨gb418,2,none⟩ = some (.int .i64 ((rd_T41 l0 x7_1).f2)):=(J BK418.out 2).trans rfl;have hcz44_3 : wc.cell? ⟨gb418,3,none⟩ = some (.int .i64 ((rd_T41 l0 x7_1).f3)):=(J BK418.out 3).trans rfl;have hcz44_4 : wc.cell? ⟨gb418,4,none⟩ = some (.slice A417_4 ((rd_T41 l0 x7_1).f4).length c417_4):=(J BK418.out 4).trans rfl;have hcz44_5 : wc.cell? ⟨gb418,5,none⟩ = some (.slice A417_5 ((rd_T41 l0 x7_1).f5).length c417_5):=(J BK418.out 5).trans rfl;have hfz44_0:=Z BK418.out 0;have hfz44_1:=Z BK418.out 1;have hfz44_2:=Z BK418.out 2;have hfz44_3:=Z BK418.out 3;have hfz44_4:=Z BK418.out 4;have hfz44_5:=Z BK418.out 5
                go_wp2_with (first | (go_at_call 17;(with_reducible refine (ih kj8 (by have:=HK1.out;have:=HJ3.out;have:=HJ8.out;omega) _ _ ((rd_T41 l0 x7_1).f4) a1 (M (a2 - 1)) false _ ?side1 ?side2 A38.out).mono ?_);(case side1=>repeat (first | exact (Kd.C_below HR417_4.out HB.out) | (with_reducible refine Q ?_ _) | (with_reducible refine W ?_ _) | (with_reducible refine V ?_)));(case side2=>exact HC417_4.out);rintro e w45 ⟨rfl,hb⟩;have n0_:=O (blk_below (g:=gb418) (o:=.cells #[.int .i64 ((rd_T41 l0 x7_1).f0),.int .i64 ((rd_T41 l0 x7_1).f1),.int .i64 ((rd_T41 l0 x7_1).f2),.int .i64 ((rd_T41 l0 x7_1).f3),.slice A417_4 ((rd_T41 l0 x7_1).f4).length c417_4,.slice A417_5 ((rd_T41 l0 x7_1).f5).length c417_5] 41 (0,0)) (q4_ BK418) hb);have n1_:=O (X (q5_ HB GE418) hb);clear BK418 HB;have BK418:=n0_;have HB:=n1_;clear n0_ n1_;(try clear hb);obtain ⟨hcz46_0,hcz46_1,hcz46_2,hcz46_3,hcz46_4,hcz46_5,hfz46_0,hfz46_1,hfz46_2,hfz46_3,hfz46_4,hfz46_5⟩:=bz6_ BK418) | (go_at_call 17;(with_reducible refine (ih kj8 (by have:=HK1.out;have:=HJ3.out;have:=HJ8.out;omega) _ _ ((rd_T41 l0 x7_1).f5) a1 (M (a2 - 1)) true _ ?side1 ?side2 A42.out).mono ?_);(case side1=>repeat (first | exact (Kd.C_below HR417_5.out HB.out) | (with_reducible refine Q ?_ _) | (with_reducible refine W ?_ _) | (with_reducible refine V ?_)));(case side2=>exact HC417_5.out);rintro e w47 ⟨rfl,hb⟩;have n0_:=O (blk_below (g:=gb418) (o:=.cells #[.int .i64 ((rd_T41 l0 x7_1).f0),.int .i64 ((rd_T41 l0 x7_1).f1),.int .i64 ((rd_T41 l0 x7_1).f2),.int .i64 ((rd_T41 l0 x7_1).f3),.slice A417_4 ((rd_T41 l0 x7_1).f4).length c417_4,.slice A417_5 ((rd_T41 l0 x7_1).f5).length c417_5] 41 (0,0)) (q4_ BK418) hb);have n1_:=O (X (q5_ HB GE418) hb);clear BK418 HB;have BK418:=n0_;have HB:=n1_;clear n0_ n1_;(try clear hb)))
                go_ret
                exact ⟨by first | rfl | (simp [T,S] <;> rfl) | (simp [*,T,S] <;> rfl),by repeat (first | (with_reducible first | exact HB.out | apply U | apply Y | apply E | refine G ?_ GE418.out) | exact HB.out)⟩
               ·replace c43:=Bool.eq_false_iff.mpr c43;subst c43
                have H1 : (laws_wpCell.l0 kj8 l0 a1 a2 (M (x7_1 + 1))) = some r:=by rw [if_neg (show ¬ (false = true) by decide)] at H;exact H
                clear H;have H:=H1;clear H1;have H':=O H;clear H;have hcz48_0 : wc.cell? ⟨gb418,0,none⟩ = some (.int .i64 ((rd_T41 l0 x7_1).f0)):=(J BK418.out 0).trans rfl;have hcz48_1 : wc.cell? ⟨gb418,1,none⟩ = some (.int .i64 ((rd_T41 l0 x7_1).f1)):=(J BK418.out 1).trans rfl;have hcz48_2 : wc.cell? ⟨gb418,2,none⟩ = some (.int .i64 ((rd_T41 l0 x7_1).f2)):=(J BK418.out 2).trans rfl;have hcz48_3 : wc.cell? ⟨gb418,3,none⟩ = some (.int .i64 ((rd_T41 l0 x7_1).f3)):=(J BK418.out 3).trans rfl;have hcz48_4 : wc.cell? ⟨gb418,4,none⟩ = some (.slice A417_4 ((rd_T41 l0 x7_1).f4).length c417_4):=(J BK418.out 4).trans rfl;have hcz48_5 : wc.cell? ⟨gb418,5,none⟩ = some (.slice A417_5 ((rd_T41 l0 x7_1).f5).length c417_5):=(J BK418.out 5).trans rfl;have hfz48_0:=Z BK418.out 0;have hfz48_1:=Z BK418.out 1;have hfz48_2:=Z BK418.out 2;have hfz48_3:=Z BK418.out 3;have hfz48_4:=Z BK418.out 4;have hfz48_5:=Z BK418.out 5
                go_wp2_with (first | (go_at_call 17;(with_reducible refine (ih kj8 (by have:=HK1.out;have:=HJ3.out;have:=HJ8.out;omega) _ _ ((rd_T41 l0 x7_1).f4) a1 (M (a2 - 1)) false _ ?side1 ?side2 A38.out).mono ?_);(case side1=>repeat (first | exact (Kd.C_below HR417_4.out HB.out) | (with_reducible refine Q ?_ _) | (with_reducible refine W ?_ _) | (with_reducible refine V ?_)));(case side2=>exact HC417_4.out);rintro e w49 ⟨rfl,hb⟩;have n0_:=O (blk_below (g:=gb418) (o:=.cells #[.int .i64 ((rd_T41 l0 x7_1).f0),.int .i64 ((rd_T41 l0 x7_1).f1),.int .i64 ((rd_T41 l0 x7_1).f2),.int .i64 ((rd_T41 l0 x7_1).f3),.slice A417_4 ((rd_T41 l0 x7_1).f4).length c417_4,.slice A417_5 ((rd_T41 l0 x7_1).f5).length c417_5] 41 (0,0)) (q4_ BK418) hb);have n1_:=O (X (q5_ HB GE418) hb);clear BK418 HB;have BK418:=n0_;have HB:=n1_;clear n0_ n1_;(try clear hb);obtain ⟨hcz50_0,hcz50_1,hcz50_2,hcz50_3,hcz50_4,hcz50_5,hfz50_0,hfz50_1,hfz50_2,hfz50_3,hfz50_4,hfz50_5⟩:=bz6_ BK418) | (go_at_call 17;(with_reducible refine (ih kj8 (by have:=HK1.out;have:=HJ3.out;have:=HJ8.out;omega) _ _ ((rd_T41 l0 x7_1).f5) a1 (M (a2 - 1)) false _ ?side1 ?side2 A42.out).mono ?_);(case side1=>repeat (first | exact (Kd.C_below HR417_5.out HB.out) | (with_reducible refine Q ?_ _) | (with_reducible refine W ?_ _) | (with_reducible refine V ?_)));(case side2=>exact HC417_5.out);rintro e w51 ⟨rfl,hb⟩;have n0_:=O (blk_below (g:=gb418) (o:=.cells #[.int .i64 ((rd_T41 l0 x7_1).f0),.int .i64 ((rd_T41 l0 x7_1).f1),.int .i64 ((rd_T41 l0 x7_1).f2),.int .i64 ((rd_T41 l0 x7_1).f3),.slice A417_4 ((rd_T41 l0 x7_1).f4).length c417_4,.slice A417_5 ((rd_T41 l0 x7_1).f5).length c417_5] 41 (0,0)) (q4_ BK418) hb);have n1_:=O (X (q5_ HB GE418) hb);clear BK418 HB;have BK418:=n0_;have HB:=n1_;clear n0_ n1_;(try clear hb)))
                go_roundg kj8
                case measure=>have:=HK1.out;have:=HJ3.out;have:=HJ8.out;omega
                case rel=>exact ⟨(M (x7_1 + 1)),(by first | rfl | (simp;done) | (simp [*];done)),H',⟨by have:=HK1.out;have:=HJ3.out;have:=HJ8.out;omega⟩,⟨by repeat (first | (with_reducible first | exact HB.out | apply U | apply Y | apply E | refine G ?_ GE418.out) | exact HB.out)⟩⟩
           ·rw [if_neg c18] at H;have c18b0 : (((rd_T41 l0 x7_1).f0) == 3) = false:=beq_eq_false_iff_ne.mpr c18;have c18b1 : (((rd_T41 l0 x7_1).f0) != 3) = true:=bne_iff_ne.mpr c18
            by_cases c52 : ((rd_T41 l0 x7_1).f0) = 4
            ·rw [if_pos c52] at H;have c52b0 : (((rd_T41 l0 x7_1).f0) == 4) = true:=beq_iff_eq.mpr c52;have c52b1 : (((rd_T41 l0 x7_1).f0) != 4) = false:=bne_eq_false_iff_eq.mpr c52;clear c52
             by_cases c53 : ((rd_T41 l0 x7_1).f1) = a1
             ·rw [if_pos c53] at H;have c53b0 : (((rd_T41 l0 x7_1).f1) == a1) = true:=beq_iff_eq.mpr c53;have c53b1 : (((rd_T41 l0 x7_1).f1) != a1) = false:=bne_eq_false_iff_eq.mpr c53;clear c53;obtain rfl:=D H;have hcz54_0 : wc.cell? ⟨gb418,0,none⟩ = some (.int .i64 ((rd_T41 l0 x7_1).f0)):=(J BK418.out 0).trans rfl;have hcz54_1 : wc.cell? ⟨gb418,1,none⟩ = some (.int .i64 ((rd_T41 l0 x7_1).f1)):=(J BK418.out 1).trans rfl;have hcz54_2 : wc.cell? ⟨gb418,2,none⟩ = some (.int .i64 ((rd_T41 l0 x7_1).f2)):=(J BK418.out 2).trans rfl;have hcz54_3 : wc.cell? ⟨gb418,3,none⟩ = some (.int .i64 ((rd_T41 l0 x7_1).f3)):=(J BK418.out 3).trans rfl;have hcz54_4 : wc.cell? ⟨gb418,4,none⟩ = some (.slice A417_4 ((rd_T41 l0 x7_1).f4).length c417_4):=(J BK418.out 4).trans rfl;have hcz54_5 : wc.cell? ⟨gb418,5,none⟩ = some (.slice A417_5 ((rd_T41 l0 x7_1).f5).length c417_5):=(J BK418.out 5).trans rfl;have hfz54_0:=Z BK418.out 0;have hfz54_1:=Z BK418.out 1;have hfz54_2:=Z BK418.out 2;have hfz54_3:=Z BK418.out 3;have hfz54_4:=Z BK418.out 4;have hfz54_5:=Z BK418.out 5
              go_wp2
              go_ret
              exact ⟨by first | rfl | (simp [T,S] <;> rfl) | (simp [*,T,S] <;> rfl),by repeat (first | (with_reducible first | exact HB.out | apply U | apply Y | apply E | refine G ?_ GE418.out) | exact HB.out)⟩
             ·rw [if_neg c53] at H;have c53b0 : (((rd_T41 l0 x7_1).f1) == a1) = false:=beq_eq_false_iff_ne.mpr c53;have c53b1 : (((rd_T41 l0 x7_1).f1) != a1) = true:=bne_iff_ne.mpr c53;replace H:=L.mp H;obtain ⟨t423,A550,H⟩:=H;replace H : (if t423 = true then (some true) else ((laws_wpCell.f kj8 ((rd_T41 l0 x7_1).f5) a1 (M (a2 - 1))).bind fun t424=>(if t424 = true then (some true) else (laws_wpCell.l0 kj8 l0 a1 a2 (M (x7_1 + 1)))))) = some r:=H;have A55:=O A550;clear A550
              by_cases c56 : t423 = true
              ·subst c56
               have H1 : (some true) = some r:=by rw [if_pos rfl] at H;exact H
               clear H;have H:=H1;clear H1;obtain rfl:=D H;have hcz57_0 : wc.cell? ⟨gb418,0,none⟩ = some (.int .i64 ((rd_T41 l0 x7_1).f0)):=(J BK418.out 0).trans rfl;have hcz57_1 : wc.cell? ⟨gb418,1,none⟩ = some (.int .i64 ((rd_T41 l0 x7_1).f1)):=(J BK418.out 1).trans rfl;have hcz57_2 : wc.cell? ⟨gb418,2,none⟩ = some (.int .i64 ((rd_T41 l0 x7_1).f2)):=(J BK418.out 2).trans rfl;have hcz57_3 : wc.cell? ⟨gb418,3,none⟩ = some (.int .i64 ((rd_T41 l0 x7_1).f3)):=(J BK418.out 3).trans rfl;have hcz57_4 : wc.cell? ⟨gb418,4,none⟩ = some (.slice A417_4 ((rd_T41 l0 x7_1).f4).length c417_4):=(J BK418.out 4).trans rfl;have hcz57_5 : wc.cell? ⟨gb418,5,none⟩ = some (.slice A417_5 ((rd_T41 l0 x7_1).f5).length c417_5):=(J BK418.out 5).trans rfl;have hfz57_0:=Z BK418.out 0;have hfz57_1:=Z BK418.out 1;have hfz57_2:=Z BK418.out 2;have hfz57_3:=Z BK418.out 3;have hfz57_4:=Z BK418.out 4;have hfz57_5:=Z BK418.out 5
               go_wp2_with (first | (go_at_call 17;(with_reducible refine (ih kj8 (by have:=HK1.out;have:=HJ3.out;have:=HJ8.out;omega) _ _ ((rd_T41 l0 x7_1).f4) a1 (M (a2 - 1)) true _ ?side1 ?side2 A55.out).mono ?_);(case side1=>repeat (first | exact (Kd.C_below HR417_4.out HB.out) | (with_reducible refine Q ?_ _) | (with_reducible refine W ?_ _) | (with_reducible refine V ?_)));(case side2=>exact HC417_4.out);rintro e w58 ⟨rfl,hb⟩;have n0_:=O (blk_below (g:=gb418) (o:=.cells #[.int .i64 ((rd_T41 l0 x7_1).f0),.int .i64 ((rd_T41 l0 x7_1).f1),.int .i64 ((rd_T41 l0 x7_1).f2),.int .i64 ((rd_T41 l0 x7_1).f3),.slice A417_4 ((rd_T41 l0 x7_1).f4).length c417_4,.slice A417_5 ((rd_T41 l0 x7_1).f5).length c417_5] 41 (0,0)) (q4_ BK418) hb);have n1_:=O (X (q5_ HB GE418) hb);clear BK418 HB;have BK418:=n0_;have HB:=n1_;clear n0_ n1_;(try clear hb)))
               go_ret
               exact ⟨by first | rfl | (simp [T,S] <;> rfl) | (simp [*,T,S] <;> rfl),by repeat (first | (with_reducible first | exact HB.out | apply U | apply Y | apply E | refine G ?_ GE418.out) | exact HB.out)⟩
              ·replace c56:=Bool.eq_false_iff.mpr c56;subst c56
               have H1 : ((laws_wpCell.f kj8 ((rd_T41 l0 x7_1).f5) a1 (M (a2 - 1))).bind fun t424=>(if t424 = true then (some true) else (laws_wpCell.l0 kj8 l0 a1 a2 (M (x7_1 + 1))))) = some r:=by rw [if_neg (show ¬ (false = true) by decide)] at H;exact H
               clear H;have H:=H1;clear H1;replace H:=L.mp H;obtain ⟨t424,A590,H⟩:=H;replace H : (if t424 = true then (some true) else (laws_wpCell.l0 kj8 l0 a1 a2 (M (x7_1 + 1)))) = some r:=H;have A59:=O A590;clear A590
               by_cases c60 : t424 = true
               ·subst c60
                have H1 : (some true) = some r:=by rw [if_pos rfl] at H;exact H
                clear H;have H:=H1;clear H1;obtain rfl:=D H;have hcz61_0 : wc.cell? ⟨gb418,0,none⟩ = some (.int .i64 ((rd_T41 l0 x7_1).f0)):=(J BK418.out 0).trans rfl;have hcz61_1 : wc.cell? ⟨gb418,1,none⟩ = some (.int .i64 ((rd_T41 l0 x7_1).f1)):=(J BK418.out 1).trans rfl;have hcz61_2 : wc.cell? ⟨gb418,2,none⟩ = some (.int .i64 ((rd_T41 l0 x7_1).f2)):=(J BK418.out 2).trans rfl;have hcz61_3 : wc.cell? ⟨gb418,3,none⟩ = some (.int .i64 ((rd_T41 l0 x7_1).f3)):=(J BK418.out 3).trans rfl;have hcz61_4 : wc.cell? ⟨gb418,4,none⟩ = some (.slice A417_4 ((rd_T41 l0 x7_1).f4).length c417_4):=(J BK418.out 4).trans rfl;have hcz61_5 : wc.cell? ⟨gb418,5,none⟩ = some (.slice A417_5 ((rd_T41 l0 x7_1).f5).length c417_5):=(J BK418.out 5).trans rfl;have hfz61_0:=Z BK418.out 0;have hfz61_1:=Z BK418.out 1;have hfz61_2:=Z BK418.out 2;have hfz61_3:=Z BK418.out 3;have hfz61_4:=Z BK418.out 4;have hfz61_5:=Z BK418.out 5
                go_wp2_with (first | (go_at_call 17;(with_reducible refine (ih kj8 (by have:=HK1.out;have:=HJ3.out;have:=HJ8.out;omega) _ _ ((rd_T41 l0 x7_1).f4) a1 (M (a2 - 1)) false _ ?side1 ?side2 A55.out).mono ?_);(case side1=>repeat (first | exact (Kd.C_below HR417_4.out HB.out) | (with_reducible refine Q ?_ _) | (with_reducible refine W ?_ _) | (with_reducible refine V ?_)));(case side2=>exact HC417_4.out);rintro e w62 ⟨rfl,hb⟩;have n0_:=O (blk_below (g:=gb418) (o:=.cells #[.int .i64 ((rd_T41 l0 x7_1).f0),.int .i64 ((rd_T41 l0 x7_1).f1),.int .i64 ((rd_T41 l0 x7_1).f2),.int .i64 ((rd_T41 l0 x7_1).f3),.slice A417_4 ((rd_T41 l0 x7_1).f4).length c417_4,.slice A417_5 ((rd_T41 l0 x7_1).f5).length c417_5] 41 (0,0)) (q4_ BK418) hb);have n1_:=O (X (q5_ HB GE418) hb);clear BK418 HB;have BK418:=n0_;have HB:=n1_;clear n0_ n1_;(try clear hb);obtain ⟨hcz63_0,hcz63_1,hcz63_2,hcz63_3,hcz63_4,hcz63_5,hfz63_0,hfz63_1,hfz63_2,hfz63_3,hfz63_4,hfz63_5⟩:=bz6_ BK418) | (go_at_call 17;(with_reducible refine (ih kj8 (by have:=HK1.out;have:=HJ3.out;have:=HJ8.out;omega) _ _ ((rd_T41 l0 x7_1).f5) a1 (M (a2 - 1)) true _ ?side1 ?side2 A59.out).mono ?_);(case side1=>repeat (first | exact (Kd.C_below HR417_5.out HB.out) | (with_reducible refine Q ?_ _) | (with_reducible refine W ?_ _) | (with_reducible refine V ?_)));(case side2=>exact HC417_5.out);rintro e w64 ⟨rfl,hb⟩;have n0_:=O (blk_below (g:=gb418) (o:=.cells #[.int .i64 ((rd_T41 l0 x7_1).f0),.int .i64 ((rd_T41 l0 x7_1).f1),.int .i64 ((rd_T41 l0 x7_1).f2),.int .i64 ((rd_T41 l0 x7_1).f3),.slice A417_4 ((rd_T41 l0 x7_1).f4).length c417_4,.slice A417_5 ((rd_T41 l0 x7_1).f5).length c417_5] 41 (0,0)) (q4_ BK418) hb);have n1_:=O (X (q5_ HB GE418) hb);clear BK418 HB;have BK418:=n0_;have HB:=n1_;clear n0_ n1_;(try clear hb)))
                go_ret
                exact ⟨by first | rfl | (simp [T,S] <;> rfl) | (simp [*,T,S] <;> rfl),by repeat (first | (with_reducible first | exact HB.out | apply U | apply Y | apply E | refine G ?_ GE418.out) | exact HB.out)⟩
               ·replace c60:=Bool.eq_false_iff.mpr c60;subst c60
                have H1 : (laws_wpCell.l0 kj8 l0 a1 a2 (M (x7_1 + 1))) = some r:=by rw [if_neg (show ¬ (false = true) by decide)] at H;exact H
                clear H;have H:=H1;clear H1;have H':=O H;clear H;have hcz65_0 : wc.cell? ⟨gb418,0,none⟩ = some (.int .i64 ((rd_T41 l0 x7_1).f0)):=(J BK418.out 0).trans rfl;have hcz65_1 : wc.cell? ⟨gb418,1,none⟩ = some (.int .i64 ((rd_T41 l0 x7_1).f1)):=(J BK418.out 1).trans rfl;have hcz65_2 : wc.cell? ⟨gb418,2,none⟩ = some (.int .i64 ((rd_T41 l0 x7_1).f2)):=(J BK418.out 2).trans rfl;have hcz65_3 : wc.cell? ⟨gb418,3,none⟩ = some (.int .i64 ((rd_T41 l0 x7_1).f3)):=(J BK418.out 3).trans rfl;have hcz65_4 : wc.cell? ⟨gb418,4,none⟩ = some (.slice A417_4 ((rd_T41 l0 x7_1).f4).length c417_4):=(J BK418.out 4).trans rfl;have hcz65_5 : wc.cell? ⟨gb418,5,none⟩ = some (.slice A417_5 ((rd_T41 l0 x7_1).f5).length c417_5):=(J BK418.out 5).trans rfl;have hfz65_0:=Z BK418.out 0;have hfz65_1:=Z BK418.out 1;have hfz65_2:=Z BK418.out 2;have hfz65_3:=Z BK418.out 3;have hfz65_4:=Z BK418.out 4;have hfz65_5:=Z BK418.out 5
                go_wp2_with (first | (go_at_call 17;(with_reducible refine (ih kj8 (by have:=HK1.out;have:=HJ3.out;have:=HJ8.out;omega) _ _ ((rd_T41 l0 x7_1).f4) a1 (M (a2 - 1)) false _ ?side1 ?side2 A55.out).mono ?_);(case side1=>repeat (first | exact (Kd.C_below HR417_4.out HB.out) | (with_reducible refine Q ?_ _) | (with_reducible refine W ?_ _) | (with_reducible refine V ?_)));(case side2=>exact HC417_4.out);rintro e w66 ⟨rfl,hb⟩;have n0_:=O (blk_below (g:=gb418) (o:=.cells #[.int .i64 ((rd_T41 l0 x7_1).f0),.int .i64 ((rd_T41 l0 x7_1).f1),.int .i64 ((rd_T41 l0 x7_1).f2),.int .i64 ((rd_T41 l0 x7_1).f3),.slice A417_4 ((rd_T41 l0 x7_1).f4).length c417_4,.slice A417_5 ((rd_T41 l0 x7_1).f5).length c417_5] 41 (0,0)) (q4_ BK418) hb);have n1_:=O (X (q5_ HB GE418) hb);clear BK418 HB;have BK418:=n0_;have HB:=n1_;clear n0_ n1_;(try clear hb);obtain ⟨hcz67_0,hcz67_1,hcz67_2,hcz67_3,hcz67_4,hcz67_5,hfz67_0,hfz67_1,hfz67_2,hfz67_3,hfz67_4,hfz67_5⟩:=bz6_ BK418) | (go_at_call 17;(with_reducible refine (ih kj8 (by have:=HK1.out;have:=HJ3.out;have:=HJ8.out;omega) _ _ ((rd_T41 l0 x7_1).f5) a1 (M (a2 - 1)) false _ ?side1 ?side2 A59.out).mono ?_);(case side1=>repeat (first | exact (Kd.C_below HR417_5.out HB.out) | (with_reducible refine Q ?_ _) | (with_reducible refine W ?_ _) | (with_reducible refine V ?_)));(case side2=>exact HC417_5.out);rintro e w68 ⟨rfl,hb⟩;have n0_:=O (blk_below (g:=gb418) (o:=.cells #[.int .i64 ((rd_T41 l0 x7_1).f0),.int .i64 ((rd_T41 l0 x7_1).f1),.int .i64 ((rd_T41 l0 x7_1).f2),.int .i64 ((rd_T41 l0 x7_1).f3),.slice A417_4 ((rd_T41 l0 x7_1).f4).length c417_4,.slice A417_5 ((rd_T41 l0 x7_1).f5).length c417_5] 41 (0,0)) (q4_ BK418) hb);have n1_:=O (X (q5_ HB GE418) hb);clear BK418 HB;have BK418:=n0_;have HB:=n1_;clear n0_ n1_;(try clear hb)))
                go_roundg kj8
                case measure=>have:=HK1.out;have:=HJ3.out;have:=HJ8.out;omega
                case rel=>exact ⟨(M (x7_1 + 1)),(by first | rfl | (simp;done) | (simp [*];done)),H',⟨by have:=HK1.out;have:=HJ3.out;have:=HJ8.out;omega⟩,⟨by repeat (first | (with_reducible first | exact HB.out | apply U | apply Y | apply E | refine G ?_ GE418.out) | exact HB.out)⟩⟩
            ·rw [if_neg c52] at H;have c52b0 : (((rd_T41 l0 x7_1).f0) == 4) = false:=beq_eq_false_iff_ne.mpr c52;have c52b1 : (((rd_T41 l0 x7_1).f0) != 4) = true:=bne_iff_ne.mpr c52;replace H:=L.mp H;obtain ⟨t425,A690,H⟩:=H;replace H : (if t425 = true then (some true) else ((laws_wpCell.f kj8 ((rd_T41 l0 x7_1).f5) a1 (M (a2 - 1))).bind fun t426=>(if t426 = true then (some true) else (laws_wpCell.l0 kj8 l0 a1 a2 (M (x7_1 + 1)))))) = some r:=H;have A69:=O A690;clear A690
             by_cases c70 : t425 = true
             ·subst c70
              have H1 : (some true) = some r:=by rw [if_pos rfl] at H;exact H
              clear H;have H:=H1;clear H1;obtain rfl:=D H;have hcz71_0 : wc.cell? ⟨gb418,0,none⟩ = some (.int .i64 ((rd_T41 l0 x7_1).f0)):=(J BK418.out 0).trans rfl;have hcz71_1 : wc.cell? ⟨gb418,1,none⟩ = some (.int .i64 ((rd_T41 l0 x7_1).f1)):=(J BK418.out 1).trans rfl;have hcz71_2 : wc.cell? ⟨gb418,2,none⟩ = some (.int .i64 ((rd_T41 l0 x7_1).f2)):=(J BK418.out 2).trans rfl;have hcz71_3 : wc.cell? ⟨gb418,3,none⟩ = some (.int .i64 ((rd_T41 l0 x7_1).f3)):=(J BK418.out 3).trans rfl;have hcz71_4 : wc.cell? ⟨gb418,4,none⟩ = some (.slice A417_4 ((rd_T41 l0 x7_1).f4).length c417_4):=(J BK418.out 4).trans rfl;have hcz71_5 : wc.cell? ⟨gb418,5,none⟩ = some (.slice A417_5 ((rd_T41 l0 x7_1).f5).length c417_5):=(J BK418.out 5).trans rfl;have hfz71_0:=Z BK418.out 0;have hfz71_1:=Z BK418.out 1;have hfz71_2:=Z BK418.out 2;have hfz71_3:=Z BK418.out 3;have hfz71_4:=Z BK418.out 4;have hfz71_5:=Z BK418.out 5
              go_wp2_with (first | (go_at_call 17;(with_reducible refine (ih kj8 (by have:=HK1.out;have:=HJ3.out;have:=HJ8.out;omega) _ _ ((rd_T41 l0 x7_1).f4) a1 (M (a2 - 1)) true _ ?side1 ?side2 A69.out).mono ?_);(case side1=>repeat (first | exact (Kd.C_below HR417_4.out HB.out) | (with_reducible refine Q ?_ _) | (with_reducible refine W ?_ _) | (with_reducible refine V ?_)));(case side2=>exact HC417_4.out);rintro e w72 ⟨rfl,hb⟩;have n0_:=O (blk_below (g:=gb418) (o:=.cells #[.int .i64 ((rd_T41 l0 x7_1).f0),.int .i64 ((rd_T41 l0 x7_1).f1),.int .i64 ((rd_T41 l0 x7_1).f2),.int .i64 ((rd_T41 l0 x7_1).f3),.slice A417_4 ((rd_T41 l0 x7_1).f4).length c417_4,.slice A417_5 ((rd_T41 l0 x7_1).f5).length c417_5] 41 (0,0)) (q4_ BK418) hb);have n1_:=O (X (q5_ HB GE418) hb);clear BK418 HB;have BK418:=n0_;have HB:=n1_;clear n0_ n1_;(try clear hb)))
              go_ret
              exact ⟨by first | rfl | (simp [T,S] <;> rfl) | (simp [*,T,S] <;> rfl),by repeat (first | (with_reducible first | exact HB.out | apply U | apply Y | apply E | refine G ?_ GE418.out) | exact HB.out)⟩
             ·replace c70:=Bool.eq_false_iff.mpr c70;subst c70
              have H1 : ((laws_wpCell.f kj8 ((rd_T41 l0 x7_1).f5) a1 (M (a2 - 1))).bind fun t426=>(if t426 = true then (some true) else (laws_wpCell.l0 kj8 l0 a1 a2 (M (x7_1 + 1))))) = some r:=by rw [if_neg (show ¬ (false = true) by decide)] at H;exact H
              clear H;have H:=H1;clear H1;replace H:=L.mp H;obtain ⟨t426,A730,H⟩:=H;replace H : (if t426 = true then (some true) else (laws_wpCell.l0 kj8 l0 a1 a2 (M (x7_1 + 1)))) = some r:=H;have A73:=O A730;clear A730
              by_cases c74 : t426 = true
              ·subst c74
               have H1 : (some true) = some r:=by rw [if_pos rfl] at H;exact H
               clear H;have H:=H1;clear H1;obtain rfl:=D H;have hcz75_0 : wc.cell? ⟨gb418,0,none⟩ = some (.int .i64 ((rd_T41 l0 x7_1).f0)):=(J BK418.out 0).trans rfl;have hcz75_1 : wc.cell? ⟨gb418,1,none⟩ = some (.int .i64 ((rd_T41 l0 x7_1).f1)):=(J BK418.out 1).trans rfl;have hcz75_2 : wc.cell? ⟨gb418,2,none⟩ = some (.int .i64 ((rd_T41 l0 x7_1).f2)):=(J BK418.out 2).trans rfl;have hcz75_3 : wc.cell? ⟨gb418,3,none⟩ = some (.int .i64 ((rd_T41 l0 x7_1).f3)):=(J BK418.out 3).trans rfl;have hcz75_4 : wc.cell? ⟨gb418,4,none⟩ = some (.slice A417_4 ((rd_T41 l0 x7_1).f4).length c417_4):=(J BK418.out 4).trans rfl;have hcz75_5 : wc.cell? ⟨gb418,5,none⟩ = some (.slice A417_5 ((rd_T41 l0 x7_1).f5).length c417_5):=(J BK418.out 5).trans rfl;have hfz75_0:=Z BK418.out 0;have hfz75_1:=Z BK418.out 1;have hfz75_2:=Z BK418.out 2;have hfz75_3:=Z BK418.out 3;have hfz75_4:=Z BK418.out 4;have hfz75_5:=Z BK418.out 5
               go_wp2_with (first | (go_at_call 17;(with_reducible refine (ih kj8 (by have:=HK1.out;have:=HJ3.out;have:=HJ8.out;omega) _ _ ((rd_T41 l0 x7_1).f4) a1 (M (a2 - 1)) false _ ?side1 ?side2 A69.out).mono ?_);(case side1=>repeat (first | exact (Kd.C_below HR417_4.out HB.out) | (with_reducible refine Q ?_ _) | (with_reducible refine W ?_ _) | (with_reducible refine V ?_)));(case side2=>exact HC417_4.out);rintro e w76 ⟨rfl,hb⟩;have n0_:=O (blk_below (g:=gb418) (o:=.cells #[.int .i64 ((rd_T41 l0 x7_1).f0),.int .i64 ((rd_T41 l0 x7_1).f1),.int .i64 ((rd_T41 l0 x7_1).f2),.int .i64 ((rd_T41 l0 x7_1).f3),.slice A417_4 ((rd_T41 l0 x7_1).f4).length c417_4,.slice A417_5 ((rd_T41 l0 x7_1).f5).length c417_5] 41 (0,0)) (q4_ BK418) hb);have n1_:=O (X (q5_ HB GE418) hb);clear BK418 HB;have BK418:=n0_;have HB:=n1_;clear n0_ n1_;(try clear hb);obtain ⟨hcz77_0,hcz77_1,hcz77_2,hcz77_3,hcz77_4,hcz77_5,hfz77_0,hfz77_1,hfz77_2,hfz77_3,hfz77_4,hfz77_5⟩:=bz6_ BK418) | (go_at_call 17;(with_reducible refine (ih kj8 (by have:=HK1.out;have:=HJ3.out;have:=HJ8.out;omega) _ _ ((rd_T41 l0 x7_1).f5) a1 (M (a2 - 1)) true _ ?side1 ?side2 A73.out).mono ?_);(case side1=>repeat (first | exact (Kd.C_below HR417_5.out HB.out) | (with_reducible refine Q ?_ _) | (with_reducible refine W ?_ _) | (with_reducible refine V ?_)));(case side2=>exact HC417_5.out);rintro e w78 ⟨rfl,hb⟩;have n0_:=O (blk_below (g:=gb418) (o:=.cells #[.int .i64 ((rd_T41 l0 x7_1).f0),.int .i64 ((rd_T41 l0 x7_1).f1),.int .i64 ((rd_T41 l0 x7_1).f2),.int .i64 ((rd_T41 l0 x7_1).f3),.slice A417_4 ((rd_T41 l0 x7_1).f4).length c417_4,.slice A417_5 ((rd_T41 l0 x7_1).f5).length c417_5] 41 (0,0)) (q4_ BK418) hb);have n1_:=O (X (q5_ HB GE418) hb);clear BK418 HB;have BK418:=n0_;have HB:=n1_;clear n0_ n1_;(try clear hb)))
               go_ret
               exact ⟨by first | rfl | (simp [T,S] <;> rfl) | (simp [*,T,S] <;> rfl),by repeat (first | (with_reducible first | exact HB.out | apply U | apply Y | apply E | refine G ?_ GE418.out) | exact HB.out)⟩
              ·replace c74:=Bool.eq_false_iff.mpr c74;subst c74
               have H1 : (laws_wpCell.l0 kj8 l0 a1 a2 (M (x7_1 + 1))) = some r:=by rw [if_neg (show ¬ (false = true) by decide)] at H;exact H
               clear H;have H:=H1;clear H1;have H':=O H;clear H;have hcz79_0 : wc.cell? ⟨gb418,0,none⟩ = some (.int .i64 ((rd_T41 l0 x7_1).f0)):=(J BK418.out 0).trans rfl;have hcz79_1 : wc.cell? ⟨gb418,1,none⟩ = some (.int .i64 ((rd_T41 l0 x7_1).f1)):=(J BK418.out 1).trans rfl;have hcz79_2 : wc.cell? ⟨gb418,2,none⟩ = some (.int .i64 ((rd_T41 l0 x7_1).f2)):=(J BK418.out 2).trans rfl;have hcz79_3 : wc.cell? ⟨gb418,3,none⟩ = some (.int .i64 ((rd_T41 l0 x7_1).f3)):=(J BK418.out 3).trans rfl;have hcz79_4 : wc.cell? ⟨gb418,4,none⟩ = some (.slice A417_4 ((rd_T41 l0 x7_1).f4).length c417_4):=(J BK418.out 4).trans rfl;have hcz79_5 : wc.cell? ⟨gb418,5,none⟩ = some (.slice A417_5 ((rd_T41 l0 x7_1).f5).length c417_5):=(J BK418.out 5).trans rfl;have hfz79_0:=Z BK418.out 0;have hfz79_1:=Z BK418.out 1;have hfz79_2:=Z BK418.out 2;have hfz79_3:=Z BK418.out 3;have hfz79_4:=Z BK418.out 4;have hfz79_5:=Z BK418.out 5
               go_wp2_with (first | (go_at_call 17;(with_reducible refine (ih kj8 (by have:=HK1.out;have:=HJ3.out;have:=HJ8.out;omega) _ _ ((rd_T41 l0 x7_1).f4) a1 (M (a2 - 1)) false _ ?side1 ?side2 A69.out).mono ?_);(case side1=>repeat (first | exact (Kd.C_below HR417_4.out HB.out) | (with_reducible refine Q ?_ _) | (with_reducible refine W ?_ _) | (with_reducible refine V ?_)));(case side2=>exact HC417_4.out);rintro e w80 ⟨rfl,hb⟩;have n0_:=O (blk_below (g:=gb418) (o:=.cells #[.int .i64 ((rd_T41 l0 x7_1).f0),.int .i64 ((rd_T41 l0 x7_1).f1),.int .i64 ((rd_T41 l0 x7_1).f2),.int .i64 ((rd_T41 l0 x7_1).f3),.slice A417_4 ((rd_T41 l0 x7_1).f4).length c417_4,.slice A417_5 ((rd_T41 l0 x7_1).f5).length c417_5] 41 (0,0)) (q4_ BK418) hb);have n1_:=O (X (q5_ HB GE418) hb);clear BK418 HB;have BK418:=n0_;have HB:=n1_;clear n0_ n1_;(try clear hb);obtain ⟨hcz81_0,hcz81_1,hcz81_2,hcz81_3,hcz81_4,hcz81_5,hfz81_0,hfz81_1,hfz81_2,hfz81_3,hfz81_4,hfz81_5⟩:=bz6_ BK418) | (go_at_call 17;(with_reducible refine (ih kj8 (by have:=HK1.out;have:=HJ3.out;have:=HJ8.out;omega) _ _ ((rd_T41 l0 x7_1).f5) a1 (M (a2 - 1)) false _ ?side1 ?side2 A73.out).mono ?_);(case side1=>repeat (first | exact (Kd.C_below HR417_5.out HB.out) | (with_reducible refine Q ?_ _) | (with_reducible refine W ?_ _) | (with_reducible refine V ?_)));(case side2=>exact HC417_5.out);rintro e w82 ⟨rfl,hb⟩;have n0_:=O (blk_below (g:=gb418) (o:=.cells #[.int .i64 ((rd_T41 l0 x7_1).f0),.int .i64 ((rd_T41 l0 x7_1).f1),.int .i64 ((rd_T41 l0 x7_1).f2),.int .i64 ((rd_T41 l0 x7_1).f3),.slice A417_4 ((rd_T41 l0 x7_1).f4).length c417_4,.slice A417_5 ((rd_T41 l0 x7_1).f5).length c417_5] 41 (0,0)) (q4_ BK418) hb);have n1_:=O (X (q5_ HB GE418) hb);clear BK418 HB;have BK418:=n0_;have HB:=n1_;clear n0_ n1_;(try clear hb)))
               go_roundg kj8
               case measure=>have:=HK1.out;have:=HJ3.out;have:=HJ8.out;omega
               case rel=>exact ⟨(M (x7_1 + 1)),(by first | rfl | (simp;done) | (simp [*];done)),H',⟨by have:=HK1.out;have:=HJ3.out;have:=HJ8.out;omega⟩,⟨by repeat (first | (with_reducible first | exact HB.out | apply U | apply Y | apply E | refine G ?_ GE418.out) | exact HB.out)⟩⟩
       ·rw [if_neg c8] at H
        exact absurd H (by simp)
      ·rw [if_neg c7] at H
       exact absurd H (by simp)
     ·replace c6:=Bool.eq_false_iff.mpr c6;subst c6
      have H1 : (some false) = some r:=by rw [if_neg (show ¬ (false = true) by decide)] at H;exact H
      clear H;have H:=H1;clear H1;obtain rfl:=D H
      go_wp2
      go_ret
      exact ⟨by first | rfl | (simp [T,S] <;> rfl) | (simp [*,T,S] <;> rfl),by repeat (first | (with_reducible first | exact HB.out | apply U | apply Y | apply E) | exact HB.out)⟩
end Go.Proofs.Ythgdapgophkklaa.P

namespace Go.Proofs.Ythgdapgophkklaa.P
open Go.RowKit Go.Proofs.YthgdapgophkklaaW.PrintWords Go.Proofs.YthgdapgophkklaaW.PrintLast Go.Proofs.YthgdapgophkklaaW.PrintMore
attribute [local go_sem] max2_int min2_int max_two min_two max_three min_three max_four min_four
set_option linter.unusedVariables false
set_option linter.unusedSimpArgs false
def laws_wpTouches.l0 : Nat → List (List (S41)) → Int → Int → Option (Bool)
 | 0,_,_,_=>none
 | k + 1,x0,x1,x5=>if x5 < (x0.length : Int) then (if 0 ≤ x5 then ((laws_wpCell.f k (rd_L3 x0 x5) x1 3).bind fun t428=>(if t428 = true then (some true) else (laws_wpTouches.l0 k x0 x1 (wrap64 (x5 + 1))))) else (none)) else (some false)
def laws_wpTouches.f (k : Nat) (l0 : List (List (S41))) (a1 : Int) : Option (Bool):=laws_wpTouches.l0 k l0 a1 0
set_option maxHeartbeats 8000000 in
set_option maxRecDepth 100000 in
theorem laws_wpTouches.calls (k : Nat) (A0 : Option Addr) (c0 : Nat) (l0 : List (List (S41))) (a1 : Int) (r : Bool) (w : World) (hr0 : Kd.C (Kd.slice 41 k41) w A0 l0.length l0) (hc0 : l0.length ≤ c0) (h : laws_wpTouches.f k l0 a1 = some r) :
  Calls Try.prog 7 #[.slice A0 l0.length c0,.int .i64 a1] w fun e w'=>e = .returned (.bool r) ∧ Below w.heap.size w w':=by
 have HR0:=Aside0.mk hr0;have HC0:=Aside0.mk hc0;clear hr0 hc0;have HB:=Aside0.mk (Below.refl w.heap.size w);have H : (laws_wpTouches.l0 k l0 a1 0) = some r:=h;clear h;have H':=Aside0.mk H;clear H;go_enter Try.func7,Try.ntmps7
 go_wp2
 go_loopg [5] k (fun kq v5 w'=>∃ (x5_1 : Int),v5 = .int .i64 x5_1 ∧ Aside0 (laws_wpTouches.l0 kq l0 a1 x5_1 = some r) ∧ Aside0 (kq ≤ k) ∧ Aside0 (Below w.heap.size w w'))
 case atStart=>exact ⟨(0),(by first | rfl | (simp;done) | (simp [*];done)),H',⟨Nat.le_refl _⟩,⟨by repeat (first | (with_reducible first | exact HB.out | apply below_alloc | apply pw_below_drewN | apply below_drew1) | exact HB.out)⟩⟩
 case round =>
  clear H';(try clear p2);obtain ⟨x5_1,rfl,HA,HK1,HB⟩:=hrel
  cases gk with
  | zero=>exact absurd HA.out (by simp [laws_wpTouches.l0])
  | succ k1 =>
   have H:=HA.out;clear HA;simp only [laws_wpTouches.l0] at H
   by_cases c3 : x5_1 < (l0.length : Int)
   ·rw [if_pos c3] at H;have c3b0 : decide (x5_1 < (l0.length : Int)) = true:=decide_eq_true c3;clear c3
    by_cases c4 : 0 ≤ x5_1
    ·rw [if_pos c4] at H;have c4b0 : decide (0 ≤ x5_1) = true:=decide_eq_true c4;clear c4;replace H:=Option.bind_eq_some_iff.mp H;obtain ⟨t428,A50,H⟩:=H;replace H : (if t428 = true then (some true) else (laws_wpTouches.l0 k1 l0 a1 (wrap64 (x5_1 + 1)))) = some r:=H;have A5:=Aside0.mk A50;clear A50
     by_cases c6 : t428 = true
     ·subst c6
      have H1 : (some true) = some r:=by rw [if_pos rfl] at H;exact H
      clear H;have H:=H1;clear H1;obtain rfl:=Option.some.inj H
      have p427 : 0 ≤ (x5_1 : Int):=of_decide_eq_true (by first | (with_reducible assumption) | assumption)
      have q427 : x5_1 < (l0.length : Int):=of_decide_eq_true (by first | (with_reducible assumption) | assumption)
      obtain ⟨ad427,A427_0,c427_0,e427,hx427_0,hl427_0,hi427_0⟩:=at_L3 HR0.out x5_1 p427 q427
      cases e427
      replace hx427_0:=(HB.out.cell (World.block_lt_of_cell? w _ hx427_0)).trans hx427_0;have HR427_0:=Aside0.mk hi427_0;have HC427_0:=Aside0.mk hl427_0;clear hi427_0 hl427_0;replace p427:=eq_true p427;replace q427:=eq_true q427
      go_wp2_with (first | ((with_reducible refine gate_callee (f:=17) rfl ?_);refine goesM_ (some 17) Try.func17 #[.slice A427_0 (rd_L3 l0 x5_1).length c427_0,.int .i64 a1,.int .i64 3] ?_;(with_reducible refine (laws_wpCell.calls k1 _ _ (rd_L3 l0 x5_1) a1 3 true _ ?side1 ?side2 A5.out).mono ?_);(case side1=>repeat (first | exact (Kd.C_below HR427_0.out HB.out) | (with_reducible refine Kd.C_alloc ?_ _) | (with_reducible refine Kd.C_drewN ?_ _) | (with_reducible refine Kd.C_drew ?_)));(case side2=>exact HC427_0.out);rintro e w7 ⟨rfl,hb⟩;refine ⟨_,rfl,?_⟩;have n0_:=Aside0.mk (below_step (q3_ HB) hb);clear HB;have HB:=n0_;clear n0_;(try clear hb)))
      go_ret
      exact ⟨by first | rfl | (simp [errW_none,errW_some] <;> rfl) | (simp [*,errW_none,errW_some] <;> rfl),by repeat (first | (with_reducible first | exact HB.out | apply below_alloc | apply pw_below_drewN | apply below_drew1) | exact HB.out)⟩
     ·replace c6:=Bool.eq_false_iff.mpr c6;subst c6
      have H1 : (laws_wpTouches.l0 k1 l0 a1 (wrap64 (x5_1 + 1))) = some r:=by rw [if_neg (show ¬ (false = true) by decide)] at H;exact H
      clear H;have H:=H1;clear H1;have H':=Aside0.mk H;clear H
      have p427 : 0 ≤ (x5_1 : Int):=of_decide_eq_true (by first | (with_reducible assumption) | assumption)
      have q427 : x5_1 < (l0.length : Int):=of_decide_eq_true (by first | (with_reducible assumption) | assumption)
      obtain ⟨ad427,A427_0,c427_0,e427,hx427_0,hl427_0,hi427_0⟩:=at_L3 HR0.out x5_1 p427 q427
      cases e427
      replace hx427_0:=(HB.out.cell (World.block_lt_of_cell? w _ hx427_0)).trans hx427_0;have HR427_0:=Aside0.mk hi427_0;have HC427_0:=Aside0.mk hl427_0;clear hi427_0 hl427_0;replace p427:=eq_true p427;replace q427:=eq_true q427
      go_wp2_with (first | ((with_reducible refine gate_callee (f:=17) rfl ?_);refine goesM_ (some 17) Try.func17 #[.slice A427_0 (rd_L3 l0 x5_1).length c427_0,.int .i64 a1,.int .i64 3] ?_;(with_reducible refine (laws_wpCell.calls k1 _ _ (rd_L3 l0 x5_1) a1 3 false _ ?side1 ?side2 A5.out).mono ?_);(case side1=>repeat (first | exact (Kd.C_below HR427_0.out HB.out) | (with_reducible refine Kd.C_alloc ?_ _) | (with_reducible refine Kd.C_drewN ?_ _) | (with_reducible refine Kd.C_drew ?_)));(case side2=>exact HC427_0.out);rintro e w8 ⟨rfl,hb⟩;refine ⟨_,rfl,?_⟩;have n0_:=Aside0.mk (below_step (q3_ HB) hb);clear HB;have HB:=n0_;clear n0_;(try clear hb)))
      go_roundg k1
      case measure=>have:=HK1.out;omega
      case rel=>exact ⟨(wrap64 (x5_1 + 1)),(by first | rfl | (simp;done) | (simp [*];done)),H',⟨by have:=HK1.out;omega⟩,⟨by repeat (first | (with_reducible first | exact HB.out | apply below_alloc | apply pw_below_drewN | apply below_drew1) | exact HB.out)⟩⟩
    ·rw [if_neg c4] at H
     exact absurd H (by simp)
   ·rw [if_neg c3] at H;have c3b0 : decide (x5_1 < (l0.length : Int)) = false:=decide_eq_false c3;clear c3;obtain rfl:=Option.some.inj H
    go_wp2
    go_ret
    exact ⟨by first | rfl | (simp [errW_none,errW_some] <;> rfl) | (simp [*,errW_none,errW_some] <;> rfl),by repeat (first | (with_reducible first | exact HB.out | apply below_alloc | apply pw_below_drewN | apply below_drew1) | exact HB.out)⟩
end Go.Proofs.Ythgdapgophkklaa.P
