/- Parts of the proof of FnMeanSame: plain Lean functions of Go functions, and that the calls come to what they say; no condition beyond those that each theorem names. -/
import Derived.Test.YtfbocgagfodgnaaProg
import Derived.Below
import Derived.Deep.Draws
import Derived.Deep.AppendLies
import Derived.Maps.AppendAt
import Derived.OwnWalk
import Derived.Laws.BytesArg
import Derived.Laws.MakeOwn
import Derived.Laws.OwnMore
import Derived.Deep.OwnRows
import Derived.Tactics
import Derived.Lib.ConvBytes
import Derived.Laws.Slices
import Derived.WalkKit
import Derived.KernelRfl
import Derived.RowKit3
import Derived.Deep.LoopGhost
import Derived.Deep.QuietTactic
import Derived.BigQuiet
import Derived.WideLaws
import Derived.Deep.DeepCutAuto
import Derived.Deep.CutBlock
import Derived.Deep.RegionHeld3
import Derived.Laws.Rows
import Derived.Lib.AppendStr
import Derived.ArgAppend
import Derived.Laws.IdiomCopy
import Derived.OrdersHeld
import Derived.Laws.BitsLemmas
import Derived.RowKit
import Derived.Test.YtfbocgagfodgnaaZFnMeanSame0
import Derived.Test.YtfbocgagfodgnaaZFnMeanSame1
import Derived.Test.YtfbocgagfodgnaaZFnMeanSame2
import Derived.Test.YtfbocgagfodgnaaZFnMeanSame3
namespace Go.Proofs.Ytfbocgagfodgnaa.P
open Go.RowKit Go.Proofs.YtfbocgagfodgnaaW.PrintWords Go.Proofs.YtfbocgagfodgnaaW.PrintLast Go.Proofs.YtfbocgagfodgnaaW.PrintMore
attribute [local go_sem] max2_int min2_int max_two min_two max_three min_three max_four min_four
set_option linter.unusedVariables false
set_option linter.unusedSimpArgs false
def errW : Option Int → Value
 | none=>.nilIface
 | some c=>.iface 0 (.int .i64 c)
theorem errW_none : errW none = .nilIface:=rfl
theorem errW_some (c : Int) : errW (some c) = .iface 0 (.int .i64 c):=rfl
section
variable {α : Type} {d : Kd α} {e : Nat} {w : World} {base : Nat} {ok : Nat → Prop} {v : Value} {xs : List α}
end
theorem info3 : (Try.prog.info? 3).map (fun i=>(i.zero,i.size,i.bytes)) = some (some (.int .i64 0),1,8):=by kernel_rfl
theorem info5 : (Try.prog.info? 5).map (fun i=>(i.zero,i.size,i.bytes)) = some (some (.int .u8 0),1,1):=by kernel_rfl
theorem info26 : (Try.prog.info? 26).map (fun i=>(i.zero,i.size,i.bytes)) = some (some (.slice none 0 0),1,24):=by kernel_rfl
theorem info38 : (Try.prog.info? 38).map (fun i=>(i.zero,i.size,i.bytes)) = some (some (.agg #[(.int .i64 0),(.int .i64 0)]),2,16):=by kernel_rfl
theorem info49 : (Try.prog.info? 49).map (fun i=>(i.zero,i.size,i.bytes)) = some (some (.slice none 0 0),1,24):=by kernel_rfl
theorem info51 : (Try.prog.info? 51).map (fun i=>(i.zero,i.size,i.bytes)) = some (some (.agg #[(.slice none 0 0),(.slice none 0 0),(.int .i64 0),(.int .i64 0),(.int .i64 0)]),5,72):=by kernel_rfl
theorem info69 : (Try.prog.info? 69).map (fun i=>(i.zero,i.size,i.bytes)) = some (some (.agg #[(.int .i64 0),(.int .i64 0),(.int .i64 0),(.int .i64 0),(.slice none 0 0),(.slice none 0 0)]),6,80):=by kernel_rfl
structure S69 where
 f0 : Int
 f1 : Int
 f2 : Int
 f3 : Int
 f4 : (List S69)
 f5 : (List S69)
def z69 : S69:=⟨(0 : Int),(0 : Int),(0 : Int),(0 : Int),([] : List S69),([] : List S69)⟩
def F69 (d : Kd S69) : Kd S69:=Kd.iso (Kd.pair (Kd.int .i64) (Kd.pair (Kd.int .i64) (Kd.pair (Kd.int .i64) (Kd.pair (Kd.int .i64) (Kd.pair (Kd.slice 69 d) (Kd.slice 69 d)))))) (fun x : S69=>(x.f0,x.f1,x.f2,x.f3,x.f4,x.f5))
theorem mono69 : Kd.Mono F69:=Kd.mono_iso _ (Kd.mono_pair (Kd.mono_const _) (Kd.mono_pair (Kd.mono_const _) (Kd.mono_pair (Kd.mono_const _) (Kd.mono_pair (Kd.mono_const _) (Kd.mono_pair (Kd.mono_slice 69 Kd.mono_id) (Kd.mono_slice 69 Kd.mono_id))))))
theorem sub69 : Kd.Sub F69 [69]:=Kd.sub_iso _ (Kd.sub_pair (Kd.sub_const _ (by decide)) (Kd.sub_pair (Kd.sub_const _ (by decide)) (Kd.sub_pair (Kd.sub_const _ (by decide)) (Kd.sub_pair (Kd.sub_const _ (by decide)) (Kd.sub_pair (Kd.sub_slice 69 (by decide) Kd.sub_id) (Kd.sub_slice 69 (by decide) Kd.sub_id))))))
theorem sz69 : ∀ n,(Kd.upto F69 6 [69] n).sz = 6:=Kd.upto_sz (fun _=>rfl)
def k69 : Kd S69:=Kd.fix F69 6 [69] sz69 (Kd.upto_E sub69)
theorem k69_heap : Kd.Heap k69:=Kd.heap_fix (fun _ h_=>Kd.heap_iso _ (Kd.heap_pair (Kd.heap_int .i64) (Kd.heap_pair (Kd.heap_int .i64) (Kd.heap_pair (Kd.heap_int .i64) (Kd.heap_pair (Kd.heap_int .i64) (Kd.heap_pair (Kd.heap_slice 69 h_) (Kd.heap_slice 69 h_)))))))
theorem k69_open {w : World} {x : S69} {cs : List Value} (h : k69.K w x cs) : ∃ A4 c4 A5 c5,cs = [.int .i64 x.f0,.int .i64 x.f1,.int .i64 x.f2,.int .i64 x.f3,.slice A4 x.f4.length c4,.slice A5 x.f5.length c5] ∧ x.f4.length ≤ c4 ∧ k69.C w A4 x.f4.length x.f4 ∧ x.f5.length ≤ c5 ∧ k69.C w A5 x.f5.length x.f5:=by
 obtain ⟨n,h⟩:=h
 cases n with
 | zero=>exact h.elim
 | succ n =>
  obtain ⟨_,_,rfl,rfl,⟨_,_,rfl,rfl,⟨_,_,rfl,rfl,⟨_,_,rfl,rfl,⟨_,_,rfl,⟨A4,c4,rfl,l4,g4⟩,⟨A5,c5,rfl,l5,g5⟩⟩⟩⟩⟩⟩:=h
  exact ⟨A4,c4,A5,c5,rfl,l4,Kd.fix_C g4,l5,Kd.fix_C g5⟩
theorem k69_mk (w : World) (x : S69) {A4 : Option Addr} {c4 : Nat} (l4 : x.f4.length ≤ c4) (g4 : k69.C w A4 x.f4.length x.f4) {A5 : Option Addr} {c5 : Nat} (l5 : x.f5.length ≤ c5) (g5 : k69.C w A5 x.f5.length x.f5) : k69.K w x [.int .i64 x.f0,.int .i64 x.f1,.int .i64 x.f2,.int .i64 x.f3,.slice A4 x.f4.length c4,.slice A5 x.f5.length c5]:=by
 obtain ⟨n4,q4⟩:=Kd.fix_C_back mono69 g4
 obtain ⟨n5,q5⟩:=Kd.fix_C_back mono69 g5
 have r4:=Kd.upto_C_le mono69 sz69 (show n4 ≤ (max n4 n5) by omega) q4
 have r5:=Kd.upto_C_le mono69 sz69 (show n5 ≤ (max n4 n5) by omega) q5
 exact ⟨(max n4 n5) + 1,⟨[.int .i64 x.f0],[.int .i64 x.f1,.int .i64 x.f2,.int .i64 x.f3,.slice A4 x.f4.length c4,.slice A5 x.f5.length c5],rfl,rfl,⟨[.int .i64 x.f1],[.int .i64 x.f2,.int .i64 x.f3,.slice A4 x.f4.length c4,.slice A5 x.f5.length c5],rfl,rfl,⟨[.int .i64 x.f2],[.int .i64 x.f3,.slice A4 x.f4.length c4,.slice A5 x.f5.length c5],rfl,rfl,⟨[.int .i64 x.f3],[.slice A4 x.f4.length c4,.slice A5 x.f5.length c5],rfl,rfl,⟨[.slice A4 x.f4.length c4],[.slice A5 x.f5.length c5],rfl,⟨A4,c4,rfl,l4,r4⟩,⟨A5,c5,rfl,l5,r5⟩⟩⟩⟩⟩⟩⟩
theorem k69_mkM (w : World) (base : Nat) (ok : Nat → Prop) (x : S69) {v4 : Value} (g4 : k69.R 69 w base ok v4 x.f4) {v5 : Value} (g5 : k69.R 69 w base ok v5 x.f5) : k69.M w base ok x [.int .i64 x.f0,.int .i64 x.f1,.int .i64 x.f2,.int .i64 x.f3,v4,v5]:=by
 obtain ⟨n4,q4⟩:=Kd.fix_R_back mono69 g4
 obtain ⟨n5,q5⟩:=Kd.fix_R_back mono69 g5
 have r4:=Kd.upto_R_le mono69 sz69 (show n4 ≤ (max n4 n5) by omega) q4
 have r5:=Kd.upto_R_le mono69 sz69 (show n5 ≤ (max n4 n5) by omega) q5
 exact ⟨(max n4 n5) + 1,⟨[.int .i64 x.f0],[.int .i64 x.f1,.int .i64 x.f2,.int .i64 x.f3,v4,v5],rfl,rfl,⟨[.int .i64 x.f1],[.int .i64 x.f2,.int .i64 x.f3,v4,v5],rfl,rfl,⟨[.int .i64 x.f2],[.int .i64 x.f3,v4,v5],rfl,rfl,⟨[.int .i64 x.f3],[v4,v5],rfl,rfl,⟨[v4],[v5],rfl,⟨v4,rfl,r4⟩,⟨v5,rfl,r5⟩⟩⟩⟩⟩⟩⟩
theorem k69_openF {W : World} {ok : Nat → Prop} {x : S69} {cs : List Value} (h : Kd.FK k69 W ok x cs) : ∃ A4 c4 A5 c5,cs = [.int .i64 x.f0,.int .i64 x.f1,.int .i64 x.f2,.int .i64 x.f3,.slice A4 x.f4.length c4,.slice A5 x.f5.length c5] ∧ x.f4.length ≤ c4 ∧ Kd.F k69 W ok A4 x.f4.length x.f4 ∧ x.f5.length ≤ c5 ∧ Kd.F k69 W ok A5 x.f5.length x.f5:=by
 obtain ⟨A4,c4,A5,c5,rfl,l4,_,l5,_⟩:=k69_open (Kd.FK_now h)
 exact ⟨A4,c4,A5,c5,rfl,l4,(fun W' hW=>by obtain ⟨A4_,c4_,A5_,c5_,he,l4_,g4_,l5_,g5_⟩:=k69_open (h W' hW);injection (Option.some.inj (show some (Value.slice A4 x.f4.length c4) = some (Value.slice A4_ x.f4.length c4_) from congrArg (fun l=>l[4]?) he)) with ha_ _ _;rw [ha_];exact g4_),l5,(fun W' hW=>by obtain ⟨A4_,c4_,A5_,c5_,he,l4_,g4_,l5_,g5_⟩:=k69_open (h W' hW);injection (Option.some.inj (show some (Value.slice A5 x.f5.length c5) = some (Value.slice A5_ x.f5.length c5_) from congrArg (fun l=>l[5]?) he)) with ha_ _ _;rw [ha_];exact g5_)⟩
theorem k69_mkF (W : World) (ok : Nat → Prop) (x : S69) {A4 : Option Addr} {c4 : Nat} (l4 : x.f4.length ≤ c4) (g4 : Kd.F k69 W ok A4 x.f4.length x.f4) {A5 : Option Addr} {c5 : Nat} (l5 : x.f5.length ≤ c5) (g5 : Kd.F k69 W ok A5 x.f5.length x.f5) : Kd.FK k69 W ok x [.int .i64 x.f0,.int .i64 x.f1,.int .i64 x.f2,.int .i64 x.f3,.slice A4 x.f4.length c4,.slice A5 x.f5.length c5]:=fun W2 hW=>k69_mk W2 x l4 (g4 W2 hW) l5 (g5 W2 hW)
def rd_T69 (xs : List S69) (i : Int) : S69:=xs.getD i.toNat z69
theorem at_T69 {w : World} {A : Option Addr} {n : Nat} {xs : List S69} (h : Kd.C k69 w A n xs) (i : Int) (h0 : 0 ≤ i) (h1 : i < n) : ∃ ad A4 c4 A5 c5,A = some ad ∧ w.cell? (ad.add (i.toNat * 6)) = some (.int .i64 (rd_T69 xs i).f0) ∧ w.cell? ⟨(ad.add (i.toNat * 6)).block,(ad.add (i.toNat * 6)).off + 1,none⟩ = some (.int .i64 (rd_T69 xs i).f1) ∧ w.cell? ⟨(ad.add (i.toNat * 6)).block,(ad.add (i.toNat * 6)).off + 2,none⟩ = some (.int .i64 (rd_T69 xs i).f2) ∧ w.cell? ⟨(ad.add (i.toNat * 6)).block,(ad.add (i.toNat * 6)).off + 3,none⟩ = some (.int .i64 (rd_T69 xs i).f3) ∧ w.cell? ⟨(ad.add (i.toNat * 6)).block,(ad.add (i.toNat * 6)).off + 4,none⟩ = some (.slice A4 (rd_T69 xs i).f4.length c4) ∧ w.cell? ⟨(ad.add (i.toNat * 6)).block,(ad.add (i.toNat * 6)).off + 5,none⟩ = some (.slice A5 (rd_T69 xs i).f5.length c5) ∧ (rd_T69 xs i).f4.length ≤ c4 ∧ k69.C w A4 (rd_T69 xs i).f4.length (rd_T69 xs i).f4 ∧ (rd_T69 xs i).f5.length ≤ c5 ∧ k69.C w A5 (rd_T69 xs i).f5.length (rd_T69 xs i).f5:=by
 obtain ⟨ad,c,e,_,hK,hc0⟩:=Kd.C_get h z69 i h0 h1
 have hc : ∀ j u,c[j]? = some u → w.cell? (ad.add (i.toNat * 6 + j)) = some u:=hc0
 obtain ⟨A4,c4,A5,c5,rfl,l4,g4,l5,g5⟩:=k69_open hK
 exact ⟨ad,A4,c4,A5,c5,e,hc 0 _ rfl,by rw [← add_field _ _ 1 (by omega)];exact hc 1 _ rfl,by rw [← add_field _ _ 2 (by omega)];exact hc 2 _ rfl,by rw [← add_field _ _ 3 (by omega)];exact hc 3 _ rfl,by rw [← add_field _ _ 4 (by omega)];exact hc 4 _ rfl,by rw [← add_field _ _ 5 (by omega)];exact hc 5 _ rfl,l4,g4,l5,g5⟩
def rd_L3 (xs : List (List S69)) (i : Int) : (List S69):=xs.getD i.toNat ([] : List S69)
theorem at_L3 {w : World} {A : Option Addr} {n : Nat} {xs : List (List S69)} (h : Kd.C (Kd.slice 69 k69) w A n xs) (i : Int) (h0 : 0 ≤ i) (h1 : i < n) : ∃ ad A0 c0,A = some ad ∧ w.cell? (ad.add i.toNat) = some (.slice A0 (rd_L3 xs i).length c0) ∧ (rd_L3 xs i).length ≤ c0 ∧ k69.C w A0 (rd_L3 xs i).length (rd_L3 xs i):=by
 obtain ⟨ad,c,e,_,hK,hc0⟩:=Kd.C_get h ([] : List S69) i h0 h1
 have hc : ∀ j u,c[j]? = some u → w.cell? (ad.add (i.toNat * 1 + j)) = some u:=hc0
 obtain ⟨A0,c0,rfl,l0,g0⟩:=hK
 exact ⟨ad,A0,c0,e,by have hq:=hc 0 _ rfl;rwa [Nat.mul_one,Nat.add_zero] at hq,l0,g0⟩
def rd_L4 (xs : List (List Int)) (i : Int) : (List Int):=xs.getD i.toNat ([] : List Int)
theorem at_L4 {w : World} {A : Option Addr} {n : Nat} {xs : List (List Int)} (h : Kd.C (Kd.slice 3 (Kd.int .i64)) w A n xs) (i : Int) (h0 : 0 ≤ i) (h1 : i < n) : ∃ ad A0 c0,A = some ad ∧ w.cell? (ad.add i.toNat) = some (.slice A0 (rd_L4 xs i).length c0) ∧ (rd_L4 xs i).length ≤ c0 ∧ (Kd.int .i64).C w A0 (rd_L4 xs i).length (rd_L4 xs i):=by
 obtain ⟨ad,c,e,_,hK,hc0⟩:=Kd.C_get h ([] : List Int) i h0 h1
 have hc : ∀ j u,c[j]? = some u → w.cell? (ad.add (i.toNat * 1 + j)) = some u:=hc0
 obtain ⟨A0,c0,rfl,l0,g0⟩:=hK
 exact ⟨ad,A0,c0,e,by have hq:=hc 0 _ rfl;rwa [Nat.mul_one,Nat.add_zero] at hq,l0,g0⟩
structure S51 where
 f0 : (List Int)
 f1 : (List S69)
 f2 : Int
 f3 : Int
 f4 : Int
def z51 : S51:=⟨([] : List Int),([] : List S69),(0 : Int),(0 : Int),(0 : Int)⟩
def k51 : Kd S51:=Kd.iso (Kd.pair (Kd.slice 3 (Kd.int .i64)) (Kd.pair (Kd.slice 69 k69) (Kd.pair (Kd.int .i64) (Kd.pair (Kd.int .i64) (Kd.int .i64))))) (fun x : S51=>(x.f0,x.f1,x.f2,x.f3,x.f4))
theorem k51_open {w : World} {x : S51} {cs : List Value} (h : k51.K w x cs) : ∃ A0 c0 A1 c1,cs = [.slice A0 x.f0.length c0,.slice A1 x.f1.length c1,.int .i64 x.f2,.int .i64 x.f3,.int .i64 x.f4] ∧ x.f0.length ≤ c0 ∧ (Kd.int .i64).C w A0 x.f0.length x.f0 ∧ x.f1.length ≤ c1 ∧ k69.C w A1 x.f1.length x.f1:=by
 obtain ⟨_,_,rfl,⟨A0,c0,rfl,l0,g0⟩,⟨_,_,rfl,⟨A1,c1,rfl,l1,g1⟩,⟨_,_,rfl,rfl,⟨_,_,rfl,rfl,rfl⟩⟩⟩⟩:=h
 exact ⟨A0,c0,A1,c1,rfl,l0,g0,l1,g1⟩
theorem k51_openM {w : World} {base : Nat} {ok : Nat → Prop} {x : S51} {cs : List Value} (h : k51.M w base ok x cs) : ∃ v0 v1,cs = [v0,v1,.int .i64 x.f2,.int .i64 x.f3,.int .i64 x.f4] ∧ (Kd.int .i64).R 3 w base ok v0 x.f0 ∧ k69.R 69 w base ok v1 x.f1:=by
 obtain ⟨_,_,rfl,⟨v0,rfl,g0⟩,⟨_,_,rfl,⟨v1,rfl,g1⟩,⟨_,_,rfl,rfl,⟨_,_,rfl,rfl,rfl⟩⟩⟩⟩:=h
 exact ⟨v0,v1,rfl,g0,g1⟩
theorem k51_mk (w : World) (x : S51) {A0 : Option Addr} {c0 : Nat} (l0 : x.f0.length ≤ c0) (g0 : (Kd.int .i64).C w A0 x.f0.length x.f0) {A1 : Option Addr} {c1 : Nat} (l1 : x.f1.length ≤ c1) (g1 : k69.C w A1 x.f1.length x.f1) : k51.K w x [.slice A0 x.f0.length c0,.slice A1 x.f1.length c1,.int .i64 x.f2,.int .i64 x.f3,.int .i64 x.f4]:=⟨[.slice A0 x.f0.length c0],[.slice A1 x.f1.length c1,.int .i64 x.f2,.int .i64 x.f3,.int .i64 x.f4],rfl,⟨A0,c0,rfl,l0,g0⟩,⟨[.slice A1 x.f1.length c1],[.int .i64 x.f2,.int .i64 x.f3,.int .i64 x.f4],rfl,⟨A1,c1,rfl,l1,g1⟩,⟨[.int .i64 x.f2],[.int .i64 x.f3,.int .i64 x.f4],rfl,rfl,⟨[.int .i64 x.f3],[.int .i64 x.f4],rfl,rfl,rfl⟩⟩⟩⟩
theorem k51_mkM (w : World) (base : Nat) (ok : Nat → Prop) (x : S51) {v0 : Value} (g0 : (Kd.int .i64).R 3 w base ok v0 x.f0) {v1 : Value} (g1 : k69.R 69 w base ok v1 x.f1) : k51.M w base ok x [v0,v1,.int .i64 x.f2,.int .i64 x.f3,.int .i64 x.f4]:=⟨[v0],[v1,.int .i64 x.f2,.int .i64 x.f3,.int .i64 x.f4],rfl,⟨v0,rfl,g0⟩,⟨[v1],[.int .i64 x.f2,.int .i64 x.f3,.int .i64 x.f4],rfl,⟨v1,rfl,g1⟩,⟨[.int .i64 x.f2],[.int .i64 x.f3,.int .i64 x.f4],rfl,rfl,⟨[.int .i64 x.f3],[.int .i64 x.f4],rfl,rfl,rfl⟩⟩⟩⟩
def rd_T51 (xs : List S51) (i : Int) : S51:=xs.getD i.toNat z51
theorem at_T51 {w : World} {A : Option Addr} {n : Nat} {xs : List S51} (h : Kd.C k51 w A n xs) (i : Int) (h0 : 0 ≤ i) (h1 : i < n) : ∃ ad A0 c0 A1 c1,A = some ad ∧ w.cell? (ad.add (i.toNat * 5)) = some (.slice A0 (rd_T51 xs i).f0.length c0) ∧ w.cell? ⟨(ad.add (i.toNat * 5)).block,(ad.add (i.toNat * 5)).off + 1,none⟩ = some (.slice A1 (rd_T51 xs i).f1.length c1) ∧ w.cell? ⟨(ad.add (i.toNat * 5)).block,(ad.add (i.toNat * 5)).off + 2,none⟩ = some (.int .i64 (rd_T51 xs i).f2) ∧ w.cell? ⟨(ad.add (i.toNat * 5)).block,(ad.add (i.toNat * 5)).off + 3,none⟩ = some (.int .i64 (rd_T51 xs i).f3) ∧ w.cell? ⟨(ad.add (i.toNat * 5)).block,(ad.add (i.toNat * 5)).off + 4,none⟩ = some (.int .i64 (rd_T51 xs i).f4) ∧ (rd_T51 xs i).f0.length ≤ c0 ∧ (Kd.int .i64).C w A0 (rd_T51 xs i).f0.length (rd_T51 xs i).f0 ∧ (rd_T51 xs i).f1.length ≤ c1 ∧ k69.C w A1 (rd_T51 xs i).f1.length (rd_T51 xs i).f1:=by
 obtain ⟨ad,c,e,_,hK,hc0⟩:=Kd.C_get h z51 i h0 h1
 have hc : ∀ j u,c[j]? = some u → w.cell? (ad.add (i.toNat * 5 + j)) = some u:=hc0
 obtain ⟨A0,c0,A1,c1,rfl,l0,g0,l1,g1⟩:=k51_open hK
 exact ⟨ad,A0,c0,A1,c1,e,hc 0 _ rfl,by rw [← add_field _ _ 1 (by omega)];exact hc 1 _ rfl,by rw [← add_field _ _ 2 (by omega)];exact hc 2 _ rfl,by rw [← add_field _ _ 3 (by omega)];exact hc 3 _ rfl,by rw [← add_field _ _ 4 (by omega)];exact hc 4 _ rfl,l0,g0,l1,g1⟩
structure S38 where
 f0 : Int
 f1 : Int
def z38 : S38:=⟨(0 : Int),(0 : Int)⟩
def k38 : Kd S38:=Kd.iso (Kd.pair (Kd.int .i64) (Kd.int .i64)) (fun x : S38=>(x.f0,x.f1))
theorem k38_open {w : World} {x : S38} {cs : List Value} (h : k38.K w x cs) : cs = [.int .i64 x.f0,.int .i64 x.f1]:=by
 obtain ⟨_,_,rfl,rfl,rfl⟩:=h
 exact rfl
def rd_T38 (xs : List S38) (i : Int) : S38:=xs.getD i.toNat z38
theorem at_T38 {w : World} {A : Option Addr} {n : Nat} {xs : List S38} (h : Kd.C k38 w A n xs) (i : Int) (h0 : 0 ≤ i) (h1 : i < n) : ∃ ad ,A = some ad ∧ w.cell? (ad.add (i.toNat * 2)) = some (.int .i64 (rd_T38 xs i).f0) ∧ w.cell? ⟨(ad.add (i.toNat * 2)).block,(ad.add (i.toNat * 2)).off + 1,none⟩ = some (.int .i64 (rd_T38 xs i).f1):=by
 obtain ⟨ad,c,e,_,hK,hc0⟩:=Kd.C_get h z38 i h0 h1
 have hc : ∀ j u,c[j]? = some u → w.cell? (ad.add (i.toNat * 2 + j)) = some u:=hc0
 obtain rfl:=k38_open hK
 exact ⟨ad,e,hc 0 _ rfl,by rw [← add_field _ _ 1 (by omega)];exact hc 1 _ rfl⟩
def rd_L7 (xs : List (List S51)) (i : Int) : (List S51):=xs.getD i.toNat ([] : List S51)
def rd_L8 (xs : List (List (List Int))) (i : Int) : (List (List Int)):=xs.getD i.toNat ([] : List (List Int))
def rd_L9 (xs : List (List S38)) (i : Int) : (List S38):=xs.getD i.toNat ([] : List S38)
structure S33 where
 f0 : (List S51)
 f1 : (List Int)
 f2 : (List Int)
 f3 : (List (List Int))
 f4 : (List S38)
def z33 : S33:=⟨([] : List S51),([] : List Int),([] : List Int),([] : List (List Int)),([] : List S38)⟩
def k33 : Kd S33:=Kd.iso (Kd.pair (Kd.slice 51 k51) (Kd.pair (Kd.slice 3 (Kd.int .i64)) (Kd.pair (Kd.slice 3 (Kd.int .i64)) (Kd.pair (Kd.slice 26 (Kd.slice 3 (Kd.int .i64))) (Kd.slice 38 k38))))) (fun x : S33=>(x.f0,x.f1,x.f2,x.f3,x.f4))
def rd_T33 (xs : List S33) (i : Int) : S33:=xs.getD i.toNat z33
structure S7 where
 f0 : Int
 f1 : Int
 f2 : Bool
 f3 : Int
def z7 : S7:=⟨(0 : Int),(0 : Int),false,(0 : Int)⟩
def k7 : Kd S7:=Kd.iso (Kd.pair (Kd.int .i64) (Kd.pair (Kd.int .i64) (Kd.pair Kd.bool (Kd.int .u8)))) (fun x : S7=>(x.f0,x.f1,x.f2,x.f3))
def rd_T7 (xs : List S7) (i : Int) : S7:=xs.getD i.toNat z7
structure S8 where
 f0 : Int
 f1 : Int
 f2 : Bool
 f3 : Int
def z8 : S8:=⟨(0 : Int),(0 : Int),false,(0 : Int)⟩
def k8 : Kd S8:=Kd.iso (Kd.pair (Kd.int .i64) (Kd.pair (Kd.int .i64) (Kd.pair Kd.bool (Kd.int .u8)))) (fun x : S8=>(x.f0,x.f1,x.f2,x.f3))
def rd_T8 (xs : List S8) (i : Int) : S8:=xs.getD i.toNat z8
structure S13 where
 f0 : ByteArray
 f1 : Int
def z13 : S13:=⟨(⟨#[]⟩ : ByteArray),(0 : Int)⟩
def k13 : Kd S13:=Kd.iso (Kd.pair Kd.string (Kd.int .u64)) (fun x : S13=>(x.f0,x.f1))
def rd_T13 (xs : List S13) (i : Int) : S13:=xs.getD i.toNat z13
structure S14 where
 f0 : ByteArray
 f1 : Int
def z14 : S14:=⟨(⟨#[]⟩ : ByteArray),(0 : Int)⟩
def k14 : Kd S14:=Kd.iso (Kd.pair Kd.string (Kd.int .u64)) (fun x : S14=>(x.f0,x.f1))
def rd_T14 (xs : List S14) (i : Int) : S14:=xs.getD i.toNat z14
def rd_L18 (xs : List (List Int)) (i : Int) : (List Int):=xs.getD i.toNat ([] : List Int)
structure S32 where
 f0 : (List S51)
 f1 : (List Int)
 f2 : (List Int)
 f3 : (List (List Int))
 f4 : (List S38)
def z32 : S32:=⟨([] : List S51),([] : List Int),([] : List Int),([] : List (List Int)),([] : List S38)⟩
def k32 : Kd S32:=Kd.iso (Kd.pair (Kd.slice 51 k51) (Kd.pair (Kd.slice 3 (Kd.int .i64)) (Kd.pair (Kd.slice 3 (Kd.int .i64)) (Kd.pair (Kd.slice 26 (Kd.slice 3 (Kd.int .i64))) (Kd.slice 38 k38))))) (fun x : S32=>(x.f0,x.f1,x.f2,x.f3,x.f4))
def rd_T32 (xs : List S32) (i : Int) : S32:=xs.getD i.toNat z32
structure S37 where
 f0 : Int
 f1 : Int
def z37 : S37:=⟨(0 : Int),(0 : Int)⟩
def k37 : Kd S37:=Kd.iso (Kd.pair (Kd.int .i64) (Kd.int .i64)) (fun x : S37=>(x.f0,x.f1))
def rd_T37 (xs : List S37) (i : Int) : S37:=xs.getD i.toNat z37
def rd_L21 (xs : List (List (List S69))) (i : Int) : (List (List S69)):=xs.getD i.toNat ([] : List (List S69))
structure S50 where
 f0 : (List Int)
 f1 : (List S69)
 f2 : Int
 f3 : Int
 f4 : Int
def z50 : S50:=⟨([] : List Int),([] : List S69),(0 : Int),(0 : Int),(0 : Int)⟩
def k50 : Kd S50:=Kd.iso (Kd.pair (Kd.slice 3 (Kd.int .i64)) (Kd.pair (Kd.slice 69 k69) (Kd.pair (Kd.int .i64) (Kd.pair (Kd.int .i64) (Kd.int .i64))))) (fun x : S50=>(x.f0,x.f1,x.f2,x.f3,x.f4))
def rd_T50 (xs : List S50) (i : Int) : S50:=xs.getD i.toNat z50
structure S52 where
 f0 : (List Int)
 f1 : Int
def z52 : S52:=⟨([] : List Int),(0 : Int)⟩
def k52 : Kd S52:=Kd.iso (Kd.pair (Kd.slice 5 (Kd.int .u8)) (Kd.int .i64)) (fun x : S52=>(x.f0,x.f1))
def rd_T52 (xs : List S52) (i : Int) : S52:=xs.getD i.toNat z52
structure S53 where
 f0 : (List Int)
 f1 : Int
def z53 : S53:=⟨([] : List Int),(0 : Int)⟩
def k53 : Kd S53:=Kd.iso (Kd.pair (Kd.slice 5 (Kd.int .u8)) (Kd.int .i64)) (fun x : S53=>(x.f0,x.f1))
def rd_T53 (xs : List S53) (i : Int) : S53:=xs.getD i.toNat z53
structure S68 where
 f0 : Int
 f1 : Int
 f2 : Int
 f3 : Int
 f4 : (List S69)
 f5 : (List S69)
def z68 : S68:=⟨(0 : Int),(0 : Int),(0 : Int),(0 : Int),([] : List S69),([] : List S69)⟩
def k68 : Kd S68:=Kd.iso (Kd.pair (Kd.int .i64) (Kd.pair (Kd.int .i64) (Kd.pair (Kd.int .i64) (Kd.pair (Kd.int .i64) (Kd.pair (Kd.slice 69 k69) (Kd.slice 69 k69)))))) (fun x : S68=>(x.f0,x.f1,x.f2,x.f3,x.f4,x.f5))
def rd_T68 (xs : List S68) (i : Int) : S68:=xs.getD i.toNat z68
end Go.Proofs.Ytfbocgagfodgnaa.P

namespace Go.Proofs.Ytfbocgagfodgnaa.P
open Go.RowKit Go.Proofs.YtfbocgagfodgnaaW.PrintWords Go.Proofs.YtfbocgagfodgnaaW.PrintLast Go.Proofs.YtfbocgagfodgnaaW.PrintMore
set_option linter.unusedVariables false
set_option linter.unusedSimpArgs false
section
variable {P : Program} {ops : Array Oper} {Q : Exit → Act → World → Prop} {md : Region.Mode} {S : World → Prop} {ds : List Nat}
theorem put_tmps (a : Act) (t : Tmp) (v : Value) (s : Nat) : (a.put (some t) v).tmps[s]? = if s = t ∧ t < a.tmps.size then some v else a.tmps[s]?:=by
 show (a.tmps.setIfInBounds t v)[s]? = _
 by_cases h : s = t
 ·subst h
  by_cases hl : s < a.tmps.size
  ·rw [Array.getElem?_setIfInBounds_self_of_lt hl,if_pos ⟨rfl,hl⟩]
  ·rw [if_neg (fun z=>hl z.2),Array.getElem?_eq_none (by simp;omega),Array.getElem?_eq_none (by omega)]
 ·rw [Array.getElem?_setIfInBounds_ne (fun z=>h z.symm),if_neg (fun z=>h z.1)]
theorem put_size (a : Act) (t : Tmp) (v : Value) : (a.put (some t) v).tmps.size = a.tmps.size:=by
 show (a.tmps.setIfInBounds t v).size = _
 simp
def puts (a : Act) (gs : List (Nat × Tmp)) (vs : Nat → Value) : Act:=putAll a (gs.map fun g=>(g.2,vs g.1))
theorem puts_size (vs : Nat → Value) : ∀ (gs : List (Nat × Tmp)) (a : Act),(puts a gs vs).tmps.size = a.tmps.size ∧ (puts a gs vs).defers = a.defers
 | [],a=>⟨rfl,rfl⟩
 | g :: gs,a=>by
  have h:=puts_size vs gs (a.put (some g.2) (vs g.1))
  exact ⟨h.1.trans (put_size _ _ _),h.2⟩
theorem puts_old (vs : Nat → Value) : ∀ (gs : List (Nat × Tmp)) (a : Act) (t : Nat),t ∉ gs.map (·.2) → (puts a gs vs).tmps[t]? = a.tmps[t]?
 | [],a,t,_=>rfl
 | g :: gs,a,t,h=>by
  have h1 : t ≠ g.2:=fun z=>h (by simp [z])
  have h2 : t ∉ gs.map (·.2):=fun z=>h (by rw [List.map_cons];exact List.mem_cons_of_mem _ z)
  have:=puts_old vs gs (a.put (some g.2) (vs g.1)) t h2
  rw [put_tmps,if_neg (fun z=>h1 z.1)] at this
  exact this
theorem puts_new (vs : Nat → Value) : ∀ (gs : List (Nat × Tmp)) (a : Act) (g : Nat × Tmp),g ∈ gs → (gs.map (·.2)).Nodup → g.2 < a.tmps.size → (puts a gs vs).tmps[g.2]? = some (vs g.1)
 | g' :: gs,a,g,h,hn,hl=>by
  rw [List.map_cons,List.nodup_cons] at hn
  rcases List.mem_cons.1 h with rfl | h
  ·have:=puts_old vs gs (a.put (some g.2) (vs g.1)) g.2 hn.1
   rw [put_tmps,if_pos ⟨rfl,hl⟩] at this
   exact this
  ·exact puts_new vs gs (a.put (some g'.2) (vs g'.1)) g h hn.2 (by rw [put_size];exact hl)
def growB (md : Region.Mode) (ops : Array Oper) (l0 l1 : Array Bool) (gs : List (Nat × Tmp)) (nt : Nat) : Bool :=
 (l0.size == ops.size) && (l1.size == ops.size) && (gs.map (·.1)).Nodup && (gs.map (·.2)).Nodup && Region.closedB md ops l0
 && gs.all (fun g=>decide (g.1 < ops.size) && !l0.getD g.1 true && decide (g.2 < nt) && match ops[g.1]? with | some o=>(o.dst == some g.2) && (o.guard.isNone) && o.after.all (fun e=>!Region.binds md e || (decide (e.on < g.1) && (l0.getD e.on false || (gs.map (·.1)).contains e.on))) | none=>false)
 && (List.range ops.size).all (fun j=>(l1.getD j true == ((gs.map (·.1)).contains j || l0.getD j true)) && (l0.getD j true || (gs.map (·.1)).contains j || gs.all fun g=>Region.reachB md ops g.1 ops.size j))
structure GrowOk (md : Region.Mode) (ops : Array Oper) (l0 l1 : Array Bool) (gs : List (Nat × Tmp)) (nt : Nat) : Prop where
 s0 : l0.size = ops.size
 s1 : l1.size = ops.size
 n1 : (gs.map (·.1)).Nodup
 n2 : (gs.map (·.2)).Nodup
 cl : ListedClosed md ops l0
 ok : ∀ g ∈ gs,g.1 < ops.size ∧ l0.getD g.1 true = false ∧ g.2 < nt ∧ ∃ o,ops[g.1]? = some o ∧ o.dst = some g.2 ∧ o.guard = none ∧ ∀ e ∈ o.after,Region.binds md e = true → e.on < g.1 ∧ (l0.getD e.on false = true ∨ e.on ∈ gs.map (·.1))
 re : ∀ j,j < ops.size → l1.getD j true = (decide (j ∈ gs.map (·.1)) || l0.getD j true) ∧ (l0.getD j true = true ∨ j ∈ gs.map (·.1) ∨ ∀ g ∈ gs,Region.reachB md ops g.1 ops.size j = true)
theorem growB_spec {l0 l1 : Array Bool} {gs : List (Nat × Tmp)} {nt : Nat} (h : growB md ops l0 l1 gs nt = true) : GrowOk md ops l0 l1 gs nt:=by
 unfold growB at h
 simp only [Bool.and_eq_true,decide_eq_true_eq,beq_iff_eq] at h
 obtain ⟨⟨⟨⟨⟨⟨h1,h2⟩,h3⟩,h4⟩,h5⟩,h6⟩,h7⟩:=h
 refine ⟨h1,h2,h3,h4,Region.closedB_spec h5,fun g hg=>?_,fun j hj=>?_⟩
 ·have z:=List.all_eq_true.1 h6 g hg
  simp only [Bool.and_eq_true,decide_eq_true_eq,Bool.not_eq_true'] at z
  obtain ⟨⟨⟨z1,z2⟩,z3⟩,z4⟩:=z
  refine ⟨z1,z2,z3,?_⟩
  cases ho : ops[g.1]? with
  | none=>rw [ho] at z4;simp at z4
  | some o =>
   rw [ho] at z4
   simp only [Bool.and_eq_true,beq_iff_eq,Option.isNone_iff_eq_none] at z4
   refine ⟨o,rfl,z4.1.1,z4.1.2,fun e he hb=>?_⟩
   have y:=Array.all_eq_true_iff_forall_mem.1 z4.2 e he
   simp only [hb,Bool.not_true,Bool.false_or,Bool.and_eq_true,decide_eq_true_eq,Bool.or_eq_true,List.contains_iff_mem] at y
   exact y
 ·have z:=List.all_eq_true.1 h7 j (List.mem_range.2 hj)
  simp only [Bool.and_eq_true,beq_iff_eq,Bool.or_eq_true,List.contains_iff_mem] at z
  refine ⟨?_,?_⟩
  ·rw [z.1]
   congr 1
   by_cases y : j ∈ gs.map (·.1)
   ·rw [decide_eq_true y];exact List.contains_iff_mem.2 y
   ·rw [decide_eq_false y]
    cases y2 : (gs.map (·.1)).contains j
    ·rfl
    ·exact absurd (List.contains_iff_mem.1 y2) y
  ·rcases z.2 with (a | b) | c
   ·exact .inl a
   ·exact .inr (.inl b)
   ·exact .inr (.inr fun g hg=>List.all_eq_true.1 c g hg)
theorem wanted_none {o : Oper} (y : Nat → Option Bool) (h : o.guard = none) : Region.wanted o y = true:=by
 unfold Region.wanted
 rw [h]
theorem mem_needs {o : Oper} {k : Nat} : k ∈ needsOf md o ↔ ∃ e ∈ o.after,Region.binds md e = true ∧ e.on = k:=by
 unfold needsOf
 simp [List.mem_map,List.mem_filter,and_assoc]
theorem getD_in {l : Array Bool} {j : Nat} (h : j < l.size) (b c : Bool) : l.getD j b = l.getD j c:=by simp [h]
theorem grow_all {fuel : Nat} {l0 : Array Bool} {a0 : Act} {w0 : World} (gs : List (Nat × Tmp)) (l1 : Array Bool) (hc : GrowOk md ops l0 l1 gs a0.tmps.size) (G : Nat → (Nat → Value) → World → Value → Prop)
  (mono : ∀ i vs w w' v,Below w.heap.size w w' → G i vs w v → G i vs w' v)
  (cong : ∀ g ∈ gs,∀ oi,ops[g.1]? = some oi → ∀ vs vs' w v,(∀ k ∈ needsOf md oi,vs k = vs' k) → G g.1 vs w v → G g.1 vs' w v)
  (hS : ∀ w,Below w0.heap.size w0 w → S w)
  (step : ∀ g ∈ gs,∀ oi,ops[g.1]? = some oi → ∀ (a : Act) (w : World) (vs : Nat → Value),Below w0.heap.size w0 w → (∀ k ∈ gs,k.1 ∈ needsOf md oi → G k.1 vs w (vs k.1) ∧ a.eval (.tmp k.2) = vs k.1) → (∀ t,t ∉ gs.map (·.2) → a.eval (.tmp t) = a0.eval (.tmp t)) → ∀ K : Act → World → Prop,(∀ v w',Below w.heap.size w w' → G g.1 vs w' v → K (a.put (some g.2) v) w') → if Region.wanted oi (yielded ops a.tmps) = true then Oper.wp P oi a w K Q else K (a.put oi.dst undef) w)
  (done : ∀ vs w,Below w0.heap.size w0 w → (∀ g ∈ gs,G g.1 vs w (vs g.1)) → wpAnyLast P md ops Q S ds fuel l1 (puts a0 gs vs) w) :
  ∀ (n : Nat) (rs : List Nat) (l : Array Bool) (a : Act) (w : World) (vs : Nat → Value),rs.length = n → rs.Nodup → (∀ i ∈ rs,i ∈ gs.map (·.1)) → l.size = l0.size → (∀ j,j < ops.size → l.getD j true = (l0.getD j true || (decide (j ∈ gs.map (·.1)) && !decide (j ∈ rs)))) → ListedClosed md ops l → a.tmps.size = a0.tmps.size → a.defers = a0.defers → (∀ g ∈ gs,g.1 ∉ rs → a.tmps[g.2]? = some (vs g.1) ∧ G g.1 vs w (vs g.1)) → (∀ t,(∀ g ∈ gs,g.1 ∉ rs → g.2 ≠ t) → a.tmps[t]? = a0.tmps[t]?) → Below w0.heap.size w0 w → wpAnyLast P md ops Q S ds (fuel + n) l a w:=by
 intro n
 induction n with
 | zero =>
  intro rs l a w vs hr _ _ hls hl _ hsz hdf hg ho hB
  obtain rfl:=List.eq_nil_of_length_eq_zero hr
  have e1 : l = l1:=by
   apply Array.ext (by rw [hls,hc.s0,hc.s1])
   intro j h1 h2
   have hj : j < ops.size:=by rw [← hc.s1];exact h2
   have z:=hl j hj
   rw [(show l.getD j true = l[j] by simp [h1])] at z
   have y:=(hc.re j hj).1
   rw [(show l1.getD j true = l1[j] by simp [h2])] at y
   rw [z,y]
   simp [Bool.or_comm]
  have e2 : a = puts a0 gs vs:=by
   obtain ⟨t1,d1⟩:=a
   obtain ⟨p1,p2⟩:=puts_size vs gs a0
   have : t1 = (puts a0 gs vs).tmps:=by
    apply Array.ext_getElem?
    intro t
    by_cases h : t ∈ gs.map (·.2)
    ·obtain ⟨g,hgm,rfl⟩:=List.mem_map.1 h
     rw [puts_new vs gs a0 g hgm hc.n2 (hc.ok g hgm).2.2.1]
     exact (hg g hgm (by simp)).1
    ·rw [puts_old vs gs a0 t h]
     exact ho t fun g hgm _ z=>h (List.mem_map.2 ⟨g,hgm,z⟩)
   subst this
   have hd2 : d1 = (puts a0 gs vs).defers:=hdf.trans p2.symm
   rw [hd2]
  rw [e1,e2]
  exact done vs w hB fun g hgm=>(hg g hgm (by simp)).2
 | succ n ih =>
  intro rs l a w vs hr hnd hrg hls hl hcl hsz hdf hg ho hB
  have hun : ∀ r ∈ rs,l.getD r true = false:=fun r hrm=>by
   obtain ⟨g,hgm,rfl⟩:=List.mem_map.1 (hrg r hrm)
   rw [hl g.1 (hc.ok g hgm).1,(hc.ok g hgm).2.1,decide_eq_true hrm]
   simp
  have hli : ∀ j,j < ops.size → j ∈ gs.map (·.1) → j ∉ rs → l.getD j true = true:=fun j hj hm hn=>by
   rw [hl j hj,decide_eq_true hm,decide_eq_false hn]
   simp
  have hsize : l.size = ops.size:=by rw [hls,hc.s0]
  refine ⟨fun hnone=>?_,fun i hi=>?_⟩
  ·exfalso
   -- the least that remains is ready
   obtain ⟨m,hm,hmin⟩ : ∃ m ∈ rs,∀ r ∈ rs,m ≤ r:=by
    have hne : rs ≠ []:=fun z=>by rw [z] at hr;simp at hr
    have key : ∀ (xs : List Nat),xs ≠ [] → ∃ m ∈ xs,∀ r ∈ xs,m ≤ r:=by
     intro xs
     induction xs with
     | nil=>intro h;exact absurd rfl h
     | cons x t ih2 =>
      intro _
      by_cases ht : t = []
      ·subst ht;exact ⟨x,by simp,fun r hr=>by simp at hr;omega⟩
      ·obtain ⟨m,hm,hmin⟩:=ih2 ht
       by_cases hx : x ≤ m
       ·exact ⟨x,by simp,fun r hr=>by rcases List.mem_cons.1 hr with rfl | h;exact Nat.le_refl _;exact Nat.le_trans hx (hmin r h)⟩
       ·exact ⟨m,by simp [hm],fun r hr=>by rcases List.mem_cons.1 hr with rfl | h;omega;exact hmin r h⟩
    exact key rs hne
   obtain ⟨g,hgm,rfl⟩:=List.mem_map.1 (hrg m hm)
   obtain ⟨g1,g2,g3,o,ho1,ho2,ho3,hed⟩:=hc.ok g hgm
   have : g.1 ∈ Region.ready md ops l:=mem_ready.2 ⟨hun _ hm,o,ho1,fun e he hb=>by
    obtain ⟨e1,e2⟩:=hed e he hb
    have hin : e.on < ops.size:=by omega
    rw [getD_in (by omega) false true,hl _ hin]
    rcases e2 with e2 | e2
    ·rw [getD_in (by rw [hc.s0];omega) false true] at e2
     rw [e2];rfl
    ·have : e.on ∉ rs:=fun z=>by have:=hmin _ z;omega
     rw [decide_eq_true e2,decide_eq_false this]
     simp⟩
   rw [hnone] at this
   cases this
  ·obtain ⟨hiu,o,hoi,hall⟩:=mem_ready.1 hi
   have hilt : i < ops.size:=(Array.getElem?_eq_some_iff.1 hoi).1
   have hig : i ∈ gs.map (·.1):=by
    rcases (hc.re i hilt).2 with h | h | h
    ·rw [hl i hilt,h] at hiu
     simp at hiu
    ·exact h
    ·exfalso
     obtain ⟨r,hrm⟩ : ∃ r,r ∈ rs:=by
      cases rs with
      | nil=>simp at hr
      | cons r t=>exact ⟨r,by simp⟩
     obtain ⟨g,hgm,rfl⟩:=List.mem_map.1 (hrg r hrm)
     exact Region.reach_not_ready hcl (h g hgm) (hun _ hrm) hi
   have hir : i ∈ rs:=by
    by_cases h : i ∈ rs
    ·exact h
    ·rw [hli i hilt hig h] at hiu
     cases hiu
   obtain ⟨g,hgm,rfl⟩:=List.mem_map.1 hig
   obtain ⟨g1,g2,g3,o',ho1,ho2,ho3,hed⟩:=hc.ok g hgm
   obtain rfl : o' = o:=Option.some.inj (ho1.symm.trans hoi)
   refine wpOp_step hoi fun K hK=>?_
   refine step g hgm o' hoi a w vs hB (fun k hk hkn=>?_) (fun t ht=>?_) K fun v w' hb hG=>?_
   ·obtain ⟨e,he,hbd,hek⟩:=mem_needs.1 hkn
    have h1:=hall e he hbd
    have hkr : k.1 ∉ rs:=fun z=>by
     have h2:=hun _ z
     rw [hek,getD_in (by rw [hsize];exact (hc.ok k hk).1) false true,h2] at h1
     cases h1
    obtain ⟨h3,h4⟩:=hg k hk hkr
    refine ⟨h4,?_⟩
    show a.tmps.getD k.2 undef = _
    rw [Array.getD_eq_getD_getElem?,h3]
    rfl
   ·show a.tmps.getD t undef = a0.tmps.getD t undef
    rw [Array.getD_eq_getD_getElem?,Array.getD_eq_getD_getElem?,ho t fun g' hg' _ z=>ht (List.mem_map.2 ⟨g',hg',z⟩)]
   ·refine hK _ _ ⟨fun _ _=>hS w' (below_step hB hb),?_⟩
    have hmem : ∀ j,j ∈ rs.erase g.1 ↔ j ∈ rs ∧ j ≠ g.1:=fun j=>by
     rw [hnd.mem_erase_iff]
     exact And.comm
    have hself : ∀ k ∈ needsOf md o',k ≠ g.1:=fun k hk z=>by
     obtain ⟨e,he,hbd,hek⟩:=mem_needs.1 hk
     have:=(hed e he hbd).1
     omega
    refine ih (rs.erase g.1) _ _ w' (fun k=>if k = g.1 then v else vs k) ?_ (hnd.erase _) (fun j hj=>hrg j ((hmem j).1 hj).1) (by simp [hls]) (fun j hj=>?_) (hcl.set hi) (by rw [put_size];exact hsz) (by exact hdf) (fun k hk hkr=>?_) (fun t ht=>?_) (below_step hB hb)
    ·rw [List.length_erase_of_mem hir,hr]
     rfl
    ·by_cases hjg : j = g.1
     ·subst hjg
      have : (l.setIfInBounds g.1 true).getD g.1 true = true:=by simp [hsize,hj]
      rw [this,decide_eq_true hig,decide_eq_false (fun z=>((hmem _).1 z).2 rfl)]
      simp
     ·rw [getD_set_ne true (fun z=>hjg z.symm),hl j hj]
      have : decide (j ∈ rs.erase g.1) = decide (j ∈ rs):=by
       by_cases z : j ∈ rs
       ·rw [decide_eq_true z,decide_eq_true ((hmem j).2 ⟨z,hjg⟩)]
       ·rw [decide_eq_false z,decide_eq_false fun y=>z ((hmem j).1 y).1]
      rw [this]
    ·by_cases hkg : k.1 = g.1
     ·have hkk : k = g:=by
       have h5:=hc.n1
       have aux : ∀ (xs : List (Nat × Tmp)),(xs.map (·.1)).Nodup → k ∈ xs → g ∈ xs → k = g:=by
        intro xs
        induction xs with
        | nil=>intro _ h;cases h
        | cons x t ih3 =>
         intro hn hk1 hg1
         rw [List.map_cons,List.nodup_cons] at hn
         rcases List.mem_cons.1 hk1 with rfl | hk7 <;> rcases List.mem_cons.1 hg1 with rfl | hg7
         ·rfl
         ·exact absurd (List.mem_map.2 ⟨g,hg7,hkg.symm⟩) hn.1
         ·exact absurd (List.mem_map.2 ⟨k,hk7,hkg⟩) hn.1
         ·exact ih3 hn.2 hk7 hg7
       exact aux gs h5 hk hgm
      subst hkk
      rw [put_tmps,if_pos ⟨rfl,by rw [hsz];exact g3⟩,if_pos rfl]
      exact ⟨rfl,cong k hk o' hoi vs _ w' v (fun q hq=>(if_neg (hself q hq)).symm) hG⟩
     ·have hkr2 : k.1 ∉ rs:=fun z=>hkr ((hmem _).2 ⟨z,hkg⟩)
      obtain ⟨h3,h4⟩:=hg k hk hkr2
      have hne2 : k.2 ≠ g.2:=by
       have h5:=hc.n2
       intro z
       have aux : ∀ (xs : List (Nat × Tmp)),(xs.map (·.2)).Nodup → k ∈ xs → g ∈ xs → k = g:=by
        intro xs
        induction xs with
        | nil=>intro _ h;cases h
        | cons x t ih3 =>
         intro hn hk1 hg1
         rw [List.map_cons,List.nodup_cons] at hn
         rcases List.mem_cons.1 hk1 with rfl | hk7 <;> rcases List.mem_cons.1 hg1 with rfl | hg7
         ·rfl
         ·exact absurd (List.mem_map.2 ⟨g,hg7,z.symm⟩) hn.1
         ·exact absurd (List.mem_map.2 ⟨k,hk7,z⟩) hn.1
         ·exact ih3 hn.2 hk7 hg7
       exact hkg (congrArg (·.1) (aux gs h5 hk hgm))
      rw [put_tmps,if_neg (fun z=>hne2 z.1),if_neg hkg]
      refine ⟨h3,?_⟩
      obtain ⟨k1,k2,k3,ok,hk1,hk2,hk3,hked⟩:=hc.ok k hk
      refine cong k hk ok hk1 vs _ w' _ (fun q hq=>(if_neg fun z=>?_).symm) (mono _ _ _ _ _ hb h4)
      obtain ⟨e,he,hbd,hek⟩:=mem_needs.1 hq
      have hlk : l.getD k.1 false = true:=by rw [getD_in (by rw [hsize];exact k1) false true];exact hli _ k1 (List.mem_map.2 ⟨k,hk,rfl⟩) hkr2
      have:=hcl k.1 ok hk1 hlk e he hbd
      rw [hek,z,getD_in (by rw [hsize];exact g1) false true,hun _ hir] at this
      cases this
    ·have hne : t ≠ g.2:=fun z=>ht g hgm (fun y=>((hmem _).1 y).2 rfl) z.symm
     rw [put_tmps,if_neg (fun z=>hne z.1)]
     exact ho t fun g' hg' hn'=>ht g' hg' (fun y=>hn' ((hmem _).1 y).1)
theorem grow_ {fuel fuel1 : Nat} {l0 : Array Bool} {a0 : Act} {w0 : World} (gs : List (Nat × Tmp)) (l1 : Array Bool) (nt : Nat) (hnt : a0.tmps.size = nt) (hc : growB md ops l0 l1 gs nt = true) (hf : fuel1 = fuel + gs.length) (G : Nat → (Nat → Value) → World → Value → Prop)
  (mono : ∀ i vs w w' v,Below w.heap.size w w' → G i vs w v → G i vs w' v)
  (cong : ∀ g ∈ gs,∀ oi,ops[g.1]? = some oi → ∀ vs vs' w v,(∀ k ∈ needsOf md oi,vs k = vs' k) → G g.1 vs w v → G g.1 vs' w v)
  (hS : ∀ w,Below w0.heap.size w0 w → S w)
  (step : ∀ g ∈ gs,∀ oi,ops[g.1]? = some oi → ∀ (a : Act) (w : World) (vs : Nat → Value),Below w0.heap.size w0 w → (∀ k ∈ gs,k.1 ∈ needsOf md oi → G k.1 vs w (vs k.1) ∧ a.eval (.tmp k.2) = vs k.1) → (∀ t,t ∉ gs.map (·.2) → a.eval (.tmp t) = a0.eval (.tmp t)) → ∀ K : Act → World → Prop,(∀ v w',Below w.heap.size w w' → G g.1 vs w' v → K (a.put (some g.2) v) w') → if Region.wanted oi (yielded ops a.tmps) = true then Oper.wp P oi a w K Q else K (a.put oi.dst undef) w)
  (done : ∀ vs w,Below w0.heap.size w0 w → (∀ g ∈ gs,G g.1 vs w (vs g.1)) → wpAnyLast P md ops Q S ds fuel l1 (puts a0 gs vs) w) : wpAnyLast P md ops Q S ds fuel1 l0 a0 w0:=by
 subst hnt
 subst hf
 have h:=growB_spec hc
 refine grow_all gs l1 h G mono cong hS step done gs.length (gs.map (·.1)) l0 a0 w0 (fun _=>undef) (by simp) h.n1 (fun _ hi=>hi) rfl (fun j hj=>?_) h.cl rfl rfl (fun g hg hn=>absurd (List.mem_map.2 ⟨g,hg,rfl⟩) hn) (fun _ _=>rfl) (Below.refl _ _)
 cases decide (j ∈ gs.map (·.1)) <;> simp
theorem same_ {α : Type} {o : Option α} {x y : α} (h : o = some x) (k : o = some y) : y = x:=Option.some.inj (k.symm.trans h)
theorem lit0_step {α : Type} {o : Oper} {a : Act} {W : World} {Kc : Act → World → Prop} (d : Kd α) (base e : Nat) (hw : Region.wanted o (yielded ops a.tmps) = true)
  (hrun : (execOp a.eval o).run P W = .ok (.value (.slice (some ⟨W.heap.size,0,none⟩) 0 0)) (W.alloc (.cells #[] e))) (hbase : base ≤ W.heap.size)
  (h : ∀ g w1,W.heap.size ≤ g → d.R e w1 base (fun _=>True) (.slice (some ⟨g,0,none⟩) 0 0) ([] : List α) → Below W.heap.size W w1 → Kc (a.put o.dst (.slice (some ⟨g,0,none⟩) 0 0)) w1) :
  if Region.wanted o (yielded ops a.tmps) = true then Oper.wp P o a W Kc Q else Kc (a.put o.dst undef) W:=by
 refine event_step hw hrun (h _ _ (Nat.le_refl _) ⟨fun _ _=>trivial,[],?_,Reps.none _ _⟩ (below_alloc (Below.refl _ _) _))
 have h2:=World.ownsRow_lit (base:=base) (e:=e) (size:=d.sz) W #[] 0 hbase (by simp [maxLen]) (by simp)
 simpa using h2
theorem lit_append_stepY {α : Type} {o : Oper} {a : Act} {W : World} {Kc : Act → World → Prop} (d : Kd α) {Rr : α → List Value → Prop} (base : Nat) (hw : Region.wanted o (yielded ops a.tmps) = true) (s x : Operand) (t e : TypeId) (z : Value) (bytes : Nat)
  (ho : o.op = .call { callee:=.builtin .append,args:=#[s,x],argTypes:=#[t,t] })
  (ht : P.underlying t = some (.slice e)) (hinfo : (P.info? e).map (fun i=>(i.zero,i.size,i.bytes)) = some (some z,d.sz,bytes)) (hz : z.cells.size = d.sz) (hs0 : 0 < d.sz)
  (g : Nat) (ys : List α) (A : Option Addr) (m c : Nat) (okp : Nat → Prop) (hs : a.eval s = .slice (some ⟨g,0,none⟩) 0 0) (hx : a.eval x = .slice A m c)
  (HO : d.R e W base (fun _=>True) (.slice (some ⟨g,0,none⟩) 0 0) ([] : List α)) (HR : ReadsRow Rr d.sz W A m ys) (hKM : ∀ x cs,Rr x cs → d.M W base okp x cs) (hbase : base ≤ W.heap.size) (hl : m * bytes ≤ 140737488355328)
  (hb0 : 0 < bytes) (h : ∀ v1 w1,d.R e w1 base (fun k=>okp k ∨ W.heap.size ≤ k ∨ k = g) v1 ys → Below W.heap.size W w1 → (ys = [] → ∃ A,v1 = .slice A 0 0) → (∀ k,v1.ownBlock = some k → k = g ∨ W.heap.size ≤ k) → Kc (a.put o.dst v1) w1) :
  if Region.wanted o (yielded ops a.tmps) = true then Oper.wp P o a W Kc Q else Kc (a.put o.dst undef) W:=by
 obtain ⟨i0,hi,hzz⟩:=Option.map_eq_some_iff.1 hinfo
 simp only [Prod.mk.injEq] at hzz
 obtain ⟨hz0,hz1,hz2⟩:=hzz
 have hm : ys.length = m:=HR.1
 have hmm : m ≤ 140737488355328:=Nat.le_trans (Nat.le_mul_of_pos_right _ hb0) hl
 have hrun : ∃ v1 w1,(Builtin.append_ #[t,t] o.type #[.slice (some ⟨g,0,none⟩) 0 0,.slice A m c]).run P W = .ok v1 w1 ∧ d.R e w1 base (fun k=>okp k ∨ W.heap.size ≤ k ∨ k = g) v1 ys ∧ Below W.heap.size W w1 ∧ (ys = [] → ∃ A,v1 = .slice A 0 0) ∧ (∀ k,v1.ownBlock = some k → k = g ∨ W.heap.size ≤ k):=by
  by_cases h0 : m = 0
  ·subst h0
   obtain rfl:=List.eq_nil_of_length_eq_zero hm
   obtain ⟨_,inner0,ho0,hr0⟩:=HO
   refine ⟨.slice (some ⟨g,0,none⟩) 0 0,W,?_,⟨fun k hk=>.inr (.inr (Option.some.inj (show some g = some k from hk)).symm),inner0,ho0,hr0.1,fun j p hj=>by simp at hj⟩,Below.refl _ _,fun _=>⟨_,rfl⟩,fun k hk=>.inl (Option.some.inj (show some g = some k from hk)).symm⟩
   cases A <;> simp [Builtin.append_,run_underlying ht,sizeOf,typeInfo,hi,Builtin.lenOf,Builtin.firstCells,storeCells,loadCells,loadCellsFrom]
  ·obtain ⟨ad,rfl,_⟩:=HR.2.2 (by omega)
   obtain ⟨news,hnr,hnc⟩:=ReadsRow.inner_ HR
   have hnM : Reps (d.M W base okp) d.sz ys news:=hnr.imp_ (fun p c hp=>hKM p c hp)
   have hone : ∀ u ∈ news,u.oneCell' = true:=by
    intro u hu
    obtain ⟨q,hq,rfl⟩:=List.mem_iff_getElem.1 hu
    have hql : q / d.sz < ys.length:=by
     rw [Nat.div_lt_iff_lt_mul hs0]
     rw [← hnM.1]
     exact hq
    have hc:=hnM.2 (q / d.sz) _ (List.getElem?_eq_getElem hql)
    refine d.K_one (d.K_of_M hc) _ ?_
    rw [List.mem_iff_getElem?]
    refine ⟨q % d.sz,?_⟩
    rw [List.getElem?_take,if_pos (Nat.mod_lt _ hs0),List.getElem?_drop,Nat.mul_comm,Nat.div_add_mod,List.getElem?_eq_getElem hq]
   have hnl : news.length = m * i0.size:=by rw [hnM.1,hm,hz1]
   obtain ⟨v1,w1,hr,h2,hg,_,hat⟩:=run_append_own_at (P:=P) W base t o.type e i0 z d.sz bytes ht hi hz0 hz1 hz2 hz hs0 (.slice none 0 0) 0 [] (own_nil W base e d.sz) ad m c news (by rw [hnM.1,hm]) hnc hone (by simp only [maxLen];omega) (by simpa using hl) hbase
   have r1:=run_append_nil (P:=P) W t o.type e i0 z ht hi hz0 ad m c news hnl hnc (by omega) (by omega) (by rw [hz2];omega)
   have r2:=run_append_grow (P:=P) W t o.type e i0 z ht hi hz0 ⟨g,0,none⟩ 0 0 [] (by simp) (fun j v hj=>by simp at hj) ad m c news hnl hnc (by omega) (by omega) (growslice_fits (by omega) (by rw [hz2];simpa using hl))
   have hb : Below W.heap.size W w1:=⟨hg.os,hg.tape,hg.output,hg.size,fun k hk=>hg.block k hk (by simp [Value.ownBlock])⟩
   have own_ : ∀ k,v1.ownBlock = some k → W.heap.size ≤ k:=fun k hk=>by
    rcases hat with hat | hat
    ·rw [hat] at hk
     simp [Value.ownBlock] at hk
    ·rw [hat] at hk
     injection hk with hk
     omega
   refine ⟨v1,w1,?_,⟨fun k hk=>.inr (.inl (own_ k hk)),news,by simpa [hm] using h2,hnM.imp_ fun p cs hp=>?_⟩,hb,fun e=>absurd (by rw [← hm,e];rfl) h0,fun k hk=>.inr (own_ k hk)⟩
   ·rw [← hr,r1,r2]
    simp
   ·refine d.M_mono (fun k hk=>⟨.inl hk.1,fun z=>?_⟩) (Kd.M_below (d.M_bound hp) hb)
    rcases hat with hat | hat
    ·rw [hat] at z
     simp [Value.ownBlock] at z
    ·rw [hat] at z
     injection z with z
     have:=hk.2.2.1
     omega
 obtain ⟨v1,w1,hr1,h1,hb⟩:=hrun
 rw [if_pos hw]
 unfold Oper.wp execOp
 simp only [ho,resolve,invoke,builtin,Sem.run_bind,Sem.run_pure,Result.andThen_ok,List.map_toArray,List.map_cons,List.map_nil,hs,hx,hr1]
 exact h v1 w1 h1 hb.1 hb.2.1 hb.2.2
theorem lit_append_stepZ {α : Type} {o : Oper} {a : Act} {W : World} {Kc : Act → World → Prop} (d : Kd α) {Rr : α → List Value → Prop} (base : Nat) (hw : Region.wanted o (yielded ops a.tmps) = true) (s x : Operand) (t e : TypeId) (z : Value) (bytes : Nat)
  (ho : o.op = .call { callee:=.builtin .append,args:=#[s,x],argTypes:=#[t,t] })
  (ht : P.underlying t = some (.slice e)) (hinfo : (P.info? e).map (fun i=>(i.zero,i.size,i.bytes)) = some (some z,d.sz,bytes)) (hz : z.cells.size = d.sz) (hs0 : 0 < d.sz)
  (g : Nat) (ys : List α) (A : Option Addr) (m c : Nat) (okp : Nat → Prop) (hs : a.eval s = .slice (some ⟨g,0,none⟩) 0 0) (hx : a.eval x = .slice A m c)
  (HO : d.R e W base (fun _=>True) (.slice (some ⟨g,0,none⟩) 0 0) ([] : List α)) (HR : ReadsRow Rr d.sz W A m ys) (hKM : ∀ x cs,Rr x cs → d.M W base okp x cs) (hbase : base ≤ W.heap.size) (hl : m * bytes ≤ 140737488355328)
  (hb0 : 0 < bytes) (h : ∀ v1 w1,d.R e w1 base (fun _=>True) v1 ys → Below W.heap.size W w1 → (ys = [] → ∃ A,v1 = .slice A 0 0) → Kc (a.put o.dst v1) w1) :
  if Region.wanted o (yielded ops a.tmps) = true then Oper.wp P o a W Kc Q else Kc (a.put o.dst undef) W :=
 lit_append_stepY d base hw s x t e z bytes ho ht hinfo hz hs0 g ys A m c okp hs hx HO HR hKM hbase hl hb0 fun v1 w1 a1 a2 a3 _=>h v1 w1 (Kd.R_mono a1 fun _ _=>trivial) a2 a3
theorem lit_append_step {α : Type} {o : Oper} {a : Act} {W : World} {Kc : Act → World → Prop} (d : Kd α) {Rr : α → List Value → Prop} (base : Nat) (hw : Region.wanted o (yielded ops a.tmps) = true) (s x : Operand) (t e : TypeId) (z : Value) (bytes : Nat)
  (ho : o.op = .call { callee:=.builtin .append,args:=#[s,x],argTypes:=#[t,t] })
  (ht : P.underlying t = some (.slice e)) (hinfo : (P.info? e).map (fun i=>(i.zero,i.size,i.bytes)) = some (some z,d.sz,bytes)) (hz : z.cells.size = d.sz) (hs0 : 0 < d.sz)
  (g : Nat) (ys : List α) (A : Option Addr) (m c : Nat) (okp : Nat → Prop) (hs : a.eval s = .slice (some ⟨g,0,none⟩) 0 0) (hx : a.eval x = .slice A m c)
  (HO : d.R e W base (fun _=>True) (.slice (some ⟨g,0,none⟩) 0 0) ([] : List α)) (HR : ReadsRow Rr d.sz W A m ys) (hKM : ∀ x cs,Rr x cs → d.M W base okp x cs) (hbase : base ≤ W.heap.size) (hl : m * bytes ≤ 140737488355328)
  (hb0 : 0 < bytes) (h : ∀ v1 w1,d.R e w1 base (fun _=>True) v1 ys → Below W.heap.size W w1 → Kc (a.put o.dst v1) w1) :
  if Region.wanted o (yielded ops a.tmps) = true then Oper.wp P o a W Kc Q else Kc (a.put o.dst undef) W :=
 lit_append_stepZ d base hw s x t e z bytes ho ht hinfo hz hs0 g ys A m c okp hs hx HO HR hKM hbase hl hb0 fun v1 w1 a1 a2 _=>h v1 w1 a1 a2
end
end Go.Proofs.Ytfbocgagfodgnaa.P

namespace Go.Proofs.Ytfbocgagfodgnaa.P
def prO (l : List S69) : S51:=⟨List.replicate 3 0,l,0,0,-1⟩
def wo0 (r : Bool) (l : List (List S69)) : List S51:=if r then l.map prO else []
def wo1 (r : Bool) : List Int:=if r then List.replicate 3 0 else []
def wo2 (r : Bool) : List Int:=if r then List.replicate 2 0 else []
def wo3 (r : Bool) : List (List Int):=if r then List.replicate 2 [] else []
end Go.Proofs.Ytfbocgagfodgnaa.P

namespace Go.Proofs.Ytfbocgagfodgnaa.P
open Go.RowKit Go.Proofs.YtfbocgagfodgnaaW.PrintWords Go.Proofs.YtfbocgagfodgnaaW.PrintLast Go.Proofs.YtfbocgagfodgnaaW.PrintMore
attribute [local go_sem] max2_int min2_int max_two min_two max_three min_three max_four min_four
set_option linter.unusedVariables false
set_option linter.unusedSimpArgs false
theorem fr1_ {W : World} {a : Addr} {x : Option Value} {n b j : Nat} (hn : n ≠ b) (v : Value) (h : W.cell? a = x) (e : a.block = n:=by first | rfl | exact add_block _ _) : (W.setCell ⟨b,j,none⟩ v).cell? a = x:=(cell_far (p:=⟨b,j,none⟩) (show a.block ≠ b from e ▸ hn) v).trans h
theorem fr6_ {W : World} {a : Addr} {x : Option Value} {n b : Nat} (hn : n ≠ b) (v0 v1 v2 v3 v4 v5 : Value) (h : W.cell? a = x) (e : a.block = n:=by first | rfl | exact add_block _ _) : ((((((W.setCell ⟨b,0,none⟩ v0).setCell ⟨b,1,none⟩ v1).setCell ⟨b,2,none⟩ v2).setCell ⟨b,3,none⟩ v3).setCell ⟨b,4,none⟩ v4).setCell ⟨b,5,none⟩ v5).cell? a = x:=(fr1_ (j:=5) hn v5 (fr1_ (j:=4) hn v4 (fr1_ (j:=3) hn v3 (fr1_ (j:=2) hn v2 (fr1_ (j:=1) hn v1 (fr1_ (j:=0) hn v0 h e) e) e) e) e) e)
theorem goesM_ {P : Program} {ops : Array Oper} {Q : Exit → Act → World → Prop} {rest : List Oper} {oi : Oper} {a : Act} {w : World} (N : Option Tmp) {f : FuncId} {fn : Func} {as_ : Array Operand} {ts : Array TypeId} (hf : P.funcs[f]? = some fn) (args : Array Value) (h : Calls P f args w fun e w' => ∃ v, e = .returned v ∧ wpList P ops Q rest (a.put N v) w') (hd : oi.dst = N := by exact rfl) (hg : oi.guard = none := by exact rfl) (hname : (fn.name == "runtime.NumGoroutine") = false := by kernel_rfl) (hb : fn.body.isSome = true := by exact rfl) (hop : oi.op = .call { callee := .value (.func f), args := as_, argTypes := ts } := by exact rfl) (hargs : as_.map a.eval = args := by (try simp only [List.map_toArray, List.map_cons, List.map_nil]); first | done | rfl | (simp only [List.length_drop, List.length_take]; rfl)) : wpList P ops Q (oi :: rest) a w := goesL_ N hd hg hf hname hb args hop hargs h
theorem bz5_ {w : World} {g : Nat} {t : TypeId} {c0 c1 c2 c3 c4 : Value} (h : Aside0 (w.heap[g]? = some (.cells #[c0,c1,c2,c3,c4] t (0,0)))) : w.cell? ⟨g,0,none⟩ = some c0 ∧ w.cell? ⟨g,1,none⟩ = some c1 ∧ w.cell? ⟨g,2,none⟩ = some c2 ∧ w.cell? ⟨g,3,none⟩ = some c3 ∧ w.cell? ⟨g,4,none⟩ = some c4 ∧ w.frozen? ⟨g,0,none⟩ = false ∧ w.frozen? ⟨g,1,none⟩ = false ∧ w.frozen? ⟨g,2,none⟩ = false ∧ w.frozen? ⟨g,3,none⟩ = false ∧ w.frozen? ⟨g,4,none⟩ = false:=⟨(blk_cell h.out 0).trans rfl,(blk_cell h.out 1).trans rfl,(blk_cell h.out 2).trans rfl,(blk_cell h.out 3).trans rfl,(blk_cell h.out 4).trans rfl,blk_frozen h.out 0,blk_frozen h.out 1,blk_frozen h.out 2,blk_frozen h.out 3,blk_frozen h.out 4⟩
theorem bp5_0_ {w : World} {g : Nat} {t : TypeId} {c0 c1 c2 c3 c4 z : Value} (h : w.heap[g]? = some (.cells #[z,c1,c2,c3,c4] t (0,0))) : (w.setCell ⟨g,0,none⟩ c0).heap[g]? = some (.cells #[c0,c1,c2,c3,c4] t (0,0)):=blk_put h 0 c0 rfl
theorem bp5_1_ {w : World} {g : Nat} {t : TypeId} {c0 c1 c2 c3 c4 z : Value} (h : w.heap[g]? = some (.cells #[c0,z,c2,c3,c4] t (0,0))) : (w.setCell ⟨g,1,none⟩ c1).heap[g]? = some (.cells #[c0,c1,c2,c3,c4] t (0,0)):=blk_put h 1 c1 rfl
theorem bp5_2_ {w : World} {g : Nat} {t : TypeId} {c0 c1 c2 c3 c4 z : Value} (h : w.heap[g]? = some (.cells #[c0,c1,z,c3,c4] t (0,0))) : (w.setCell ⟨g,2,none⟩ c2).heap[g]? = some (.cells #[c0,c1,c2,c3,c4] t (0,0)):=blk_put h 2 c2 rfl
theorem bp5_3_ {w : World} {g : Nat} {t : TypeId} {c0 c1 c2 c3 c4 z : Value} (h : w.heap[g]? = some (.cells #[c0,c1,c2,z,c4] t (0,0))) : (w.setCell ⟨g,3,none⟩ c3).heap[g]? = some (.cells #[c0,c1,c2,c3,c4] t (0,0)):=blk_put h 3 c3 rfl
theorem bp5_4_ {w : World} {g : Nat} {t : TypeId} {c0 c1 c2 c3 c4 z : Value} (h : w.heap[g]? = some (.cells #[c0,c1,c2,c3,z] t (0,0))) : (w.setCell ⟨g,4,none⟩ c4).heap[g]? = some (.cells #[c0,c1,c2,c3,c4] t (0,0)):=blk_put h 4 c4 rfl
theorem bz6_ {w : World} {g : Nat} {t : TypeId} {c0 c1 c2 c3 c4 c5 : Value} (h : Aside0 (w.heap[g]? = some (.cells #[c0,c1,c2,c3,c4,c5] t (0,0)))) : w.cell? ⟨g,0,none⟩ = some c0 ∧ w.cell? ⟨g,1,none⟩ = some c1 ∧ w.cell? ⟨g,2,none⟩ = some c2 ∧ w.cell? ⟨g,3,none⟩ = some c3 ∧ w.cell? ⟨g,4,none⟩ = some c4 ∧ w.cell? ⟨g,5,none⟩ = some c5 ∧ w.frozen? ⟨g,0,none⟩ = false ∧ w.frozen? ⟨g,1,none⟩ = false ∧ w.frozen? ⟨g,2,none⟩ = false ∧ w.frozen? ⟨g,3,none⟩ = false ∧ w.frozen? ⟨g,4,none⟩ = false ∧ w.frozen? ⟨g,5,none⟩ = false:=⟨(blk_cell h.out 0).trans rfl,(blk_cell h.out 1).trans rfl,(blk_cell h.out 2).trans rfl,(blk_cell h.out 3).trans rfl,(blk_cell h.out 4).trans rfl,(blk_cell h.out 5).trans rfl,blk_frozen h.out 0,blk_frozen h.out 1,blk_frozen h.out 2,blk_frozen h.out 3,blk_frozen h.out 4,blk_frozen h.out 5⟩
theorem bp6_0_ {w : World} {g : Nat} {t : TypeId} {c0 c1 c2 c3 c4 c5 z : Value} (h : w.heap[g]? = some (.cells #[z,c1,c2,c3,c4,c5] t (0,0))) : (w.setCell ⟨g,0,none⟩ c0).heap[g]? = some (.cells #[c0,c1,c2,c3,c4,c5] t (0,0)):=blk_put h 0 c0 rfl
theorem bp6_1_ {w : World} {g : Nat} {t : TypeId} {c0 c1 c2 c3 c4 c5 z : Value} (h : w.heap[g]? = some (.cells #[c0,z,c2,c3,c4,c5] t (0,0))) : (w.setCell ⟨g,1,none⟩ c1).heap[g]? = some (.cells #[c0,c1,c2,c3,c4,c5] t (0,0)):=blk_put h 1 c1 rfl
theorem bp6_2_ {w : World} {g : Nat} {t : TypeId} {c0 c1 c2 c3 c4 c5 z : Value} (h : w.heap[g]? = some (.cells #[c0,c1,z,c3,c4,c5] t (0,0))) : (w.setCell ⟨g,2,none⟩ c2).heap[g]? = some (.cells #[c0,c1,c2,c3,c4,c5] t (0,0)):=blk_put h 2 c2 rfl
theorem bp6_3_ {w : World} {g : Nat} {t : TypeId} {c0 c1 c2 c3 c4 c5 z : Value} (h : w.heap[g]? = some (.cells #[c0,c1,c2,z,c4,c5] t (0,0))) : (w.setCell ⟨g,3,none⟩ c3).heap[g]? = some (.cells #[c0,c1,c2,c3,c4,c5] t (0,0)):=blk_put h 3 c3 rfl
theorem bp6_4_ {w : World} {g : Nat} {t : TypeId} {c0 c1 c2 c3 c4 c5 z : Value} (h : w.heap[g]? = some (.cells #[c0,c1,c2,c3,z,c5] t (0,0))) : (w.setCell ⟨g,4,none⟩ c4).heap[g]? = some (.cells #[c0,c1,c2,c3,c4,c5] t (0,0)):=blk_put h 4 c4 rfl
theorem bp6_5_ {w : World} {g : Nat} {t : TypeId} {c0 c1 c2 c3 c4 c5 z : Value} (h : w.heap[g]? = some (.cells #[c0,c1,c2,c3,c4,z] t (0,0))) : (w.setCell ⟨g,5,none⟩ c5).heap[g]? = some (.cells #[c0,c1,c2,c3,c4,c5] t (0,0)):=blk_put h 5 c5 rfl
theorem q0_ {A Z : Prop} (a0 : Aside0 A) (h : A → Z:=by intro h0_;repeat (first | (with_reducible first | exact h0_ | apply below_alloc | apply pw_below_drewN | apply below_drew1) | exact h0_)) : Z:=h a0.out
theorem q1_ {A Z : Prop} (a0 : Aside0 A) (h : A → Z:=by intro h0_;repeat (first | (with_reducible first | exact h0_ | apply IsS53.alloc | apply IsS53.drewN | apply IsS53.drew | apply IsS53.set_1) | exact h0_)) : Z:=h a0.out
theorem q2_ {A B Z : Prop} (a0 : Aside0 A) (a1 : Aside0 B) (h : A → B → Z:=by intro h0_ h1_;repeat (first | (with_reducible first | exact h0_ | apply below_alloc | apply pw_below_drewN | apply below_drew1 | refine below_set ?_ (IsS53.ge h1_)) | exact h0_)) : Z:=h a0.out a1.out
theorem q3_ {A Z : Prop} (a0 : Aside0 A) (h : A → Z:=by intro h0_;repeat (first | (with_reducible first | exact h0_ | apply KeepBut.set_ | apply keep_drewN | apply keep_drew | apply keep_alloc) | exact h0_)) : Z:=h a0.out
theorem q4_ {A B Z : Prop} (a0 : Aside0 A) (a1 : Aside0 B) (h : A → B → Z:=by intro h0_ h1_;repeat (first | (with_reducible first | exact h0_ | apply IsS53.alloc | apply IsS53.drewN | apply IsS53.drew | apply IsS53.set_1 | refine IsS53.far ?_ h1_ _) | exact h0_)) : Z:=h a0.out a1.out
theorem q5_ {A B C Z : Prop} (a0 : Aside0 A) (a1 : Aside0 B) (a2 : Aside0 C) (h : A → B → C → Z:=by intro h0_ h1_ h2_;repeat (first | (with_reducible first | exact h0_ | apply below_alloc | apply pw_below_drewN | apply below_drew1 | refine below_set ?_ (IsS53.ge h1_) | refine below_set ?_ h2_) | exact h0_)) : Z:=h a0.out a1.out a2.out
theorem q6_ {A Z : Prop} (a0 : Aside0 A) (h : A → Z:=by intro h0_;(with_reducible repeat (first | refine blk_drewN ?_ _ | refine blk_drew ?_ | refine blk_alloc ?_ _));exact h0_) : Z:=h a0.out
theorem q7_ {A B Z : Prop} (a0 : Aside0 A) (a1 : Aside0 B) (h : A → B → Z:=by intro h0_ h1_;repeat (first | (with_reducible first | exact h0_ | apply KeepBut.set_ | apply keep_drewN | apply keep_drew | apply keep_alloc | refine keep_far ?_ h1_ _) | exact h0_)) : Z:=h a0.out a1.out
theorem q8_ {A Z : Prop} (a0 : Aside0 A) (h : A → Z:=by intro h0_;(with_reducible repeat (first | apply Kd.R_alloc | apply Kd.R_drewN | apply Kd.R_drew));exact h0_) : Z:=h a0.out
theorem q9_ {A Z : Prop} (a0 : Aside0 A) (h : A → Z:=by intro h0_;(with_reducible repeat (first | refine blk_drewN ?_ _ | refine blk_drew ?_ | refine blk_alloc ?_ _));apply bp6_5_;(with_reducible repeat (first | refine blk_drewN ?_ _ | refine blk_drew ?_ | refine blk_alloc ?_ _));apply bp6_4_;(with_reducible repeat (first | refine blk_drewN ?_ _ | refine blk_drew ?_ | refine blk_alloc ?_ _));apply bp6_3_;(with_reducible repeat (first | refine blk_drewN ?_ _ | refine blk_drew ?_ | refine blk_alloc ?_ _));apply bp6_2_;(with_reducible repeat (first | refine blk_drewN ?_ _ | refine blk_drew ?_ | refine blk_alloc ?_ _));apply bp6_1_;(with_reducible repeat (first | refine blk_drewN ?_ _ | refine blk_drew ?_ | refine blk_alloc ?_ _));apply bp6_0_;(with_reducible repeat (first | refine blk_drewN ?_ _ | refine blk_drew ?_ | refine blk_alloc ?_ _));exact h0_) : Z:=h a0.out
theorem q10_ {A B Z : Prop} (a0 : Aside0 A) (a1 : Aside0 B) (h : A → B → Z:=by intro h0_ h1_;repeat (first | (with_reducible first | exact h0_ | apply below_alloc | apply pw_below_drewN | apply below_drew1 | refine below_set ?_ h1_) | exact h0_)) : Z:=h a0.out a1.out
theorem q11_ {A Z : Prop} (a0 : Aside0 A) (h : A → Z:=by intro h0_;(with_reducible repeat (first | apply Kd.N_alloc | apply Kd.N_drewN | apply Kd.N_drew));exact h0_) : Z:=h a0.out
theorem q13_ {A B C Z : Prop} (a0 : Aside0 A) (a1 : Aside0 B) (a2 : Aside0 C) (h : A → B → C → Z:=by intro h0_ h1_ h2_;repeat (first | (with_reducible first | exact h0_ | apply below_alloc | apply pw_below_drewN | apply below_drew1 | refine below_set ?_ h1_ | refine below_set ?_ h2_) | exact h0_)) : Z:=h a0.out a1.out a2.out
theorem q20_ {A B Z : Prop} (a0 : Aside0 A) (a1 : Aside0 B) (h : A → B → Z:=by intro h0_ h1_;(with_reducible repeat (first | refine blk_drewN ?_ _ | refine blk_drew ?_ | refine blk_alloc ?_ _));refine blk_far ?_ h0_ _;(with_reducible repeat (first | refine blk_drewN ?_ _ | refine blk_drew ?_ | refine blk_alloc ?_ _));refine blk_far ?_ h0_ _;(with_reducible repeat (first | refine blk_drewN ?_ _ | refine blk_drew ?_ | refine blk_alloc ?_ _));refine blk_far ?_ h0_ _;(with_reducible repeat (first | refine blk_drewN ?_ _ | refine blk_drew ?_ | refine blk_alloc ?_ _));refine blk_far ?_ h0_ _;(with_reducible repeat (first | refine blk_drewN ?_ _ | refine blk_drew ?_ | refine blk_alloc ?_ _));refine blk_far ?_ h0_ _;(with_reducible repeat (first | refine blk_drewN ?_ _ | refine blk_drew ?_ | refine blk_alloc ?_ _));refine blk_far ?_ h0_ _;(with_reducible repeat (first | refine blk_drewN ?_ _ | refine blk_drew ?_ | refine blk_alloc ?_ _));exact h1_) : Z:=h a0.out a1.out
end Go.Proofs.Ytfbocgagfodgnaa.P

namespace Go.Proofs.Ytfbocgagfodgnaa.P
open Go.RowKit Go.Proofs.YtfbocgagfodgnaaW.PrintWords Go.Proofs.YtfbocgagfodgnaaW.PrintLast Go.Proofs.YtfbocgagfodgnaaW.PrintMore
set_option linter.unusedVariables false
theorem ap2 {A0 A1 : Prop} (a0 : A0) (a1 : A1) : Aside0 A0 ∧ Aside0 A1:=⟨⟨a0⟩,⟨a1⟩⟩
theorem ap3 {A0 A1 A2 : Prop} (a0 : A0) (a1 : A1) (a2 : A2) : Aside0 A0 ∧ Aside0 A1 ∧ Aside0 A2:=⟨⟨a0⟩,⟨a1⟩,⟨a2⟩⟩
theorem ap4 {A0 A1 A2 A3 : Prop} (a0 : A0) (a1 : A1) (a2 : A2) (a3 : A3) : Aside0 A0 ∧ Aside0 A1 ∧ Aside0 A2 ∧ Aside0 A3:=⟨⟨a0⟩,⟨a1⟩,⟨a2⟩,⟨a3⟩⟩
theorem ap5 {A0 A1 A2 A3 A4 : Prop} (a0 : A0) (a1 : A1) (a2 : A2) (a3 : A3) (a4 : A4) : Aside0 A0 ∧ Aside0 A1 ∧ Aside0 A2 ∧ Aside0 A3 ∧ Aside0 A4:=⟨⟨a0⟩,⟨a1⟩,⟨a2⟩,⟨a3⟩,⟨a4⟩⟩
theorem ap6 {A0 A1 A2 A3 A4 A5 : Prop} (a0 : A0) (a1 : A1) (a2 : A2) (a3 : A3) (a4 : A4) (a5 : A5) : Aside0 A0 ∧ Aside0 A1 ∧ Aside0 A2 ∧ Aside0 A3 ∧ Aside0 A4 ∧ Aside0 A5:=⟨⟨a0⟩,⟨a1⟩,⟨a2⟩,⟨a3⟩,⟨a4⟩,⟨a5⟩⟩
theorem ap7 {A0 A1 A2 A3 A4 A5 A6 : Prop} (a0 : A0) (a1 : A1) (a2 : A2) (a3 : A3) (a4 : A4) (a5 : A5) (a6 : A6) : Aside0 A0 ∧ Aside0 A1 ∧ Aside0 A2 ∧ Aside0 A3 ∧ Aside0 A4 ∧ Aside0 A5 ∧ Aside0 A6:=⟨⟨a0⟩,⟨a1⟩,⟨a2⟩,⟨a3⟩,⟨a4⟩,⟨a5⟩,⟨a6⟩⟩
theorem ap8 {A0 A1 A2 A3 A4 A5 A6 A7 : Prop} (a0 : A0) (a1 : A1) (a2 : A2) (a3 : A3) (a4 : A4) (a5 : A5) (a6 : A6) (a7 : A7) : Aside0 A0 ∧ Aside0 A1 ∧ Aside0 A2 ∧ Aside0 A3 ∧ Aside0 A4 ∧ Aside0 A5 ∧ Aside0 A6 ∧ Aside0 A7:=⟨⟨a0⟩,⟨a1⟩,⟨a2⟩,⟨a3⟩,⟨a4⟩,⟨a5⟩,⟨a6⟩,⟨a7⟩⟩
theorem ap9 {A0 A1 A2 A3 A4 A5 A6 A7 A8 : Prop} (a0 : A0) (a1 : A1) (a2 : A2) (a3 : A3) (a4 : A4) (a5 : A5) (a6 : A6) (a7 : A7) (a8 : A8) : Aside0 A0 ∧ Aside0 A1 ∧ Aside0 A2 ∧ Aside0 A3 ∧ Aside0 A4 ∧ Aside0 A5 ∧ Aside0 A6 ∧ Aside0 A7 ∧ Aside0 A8:=⟨⟨a0⟩,⟨a1⟩,⟨a2⟩,⟨a3⟩,⟨a4⟩,⟨a5⟩,⟨a6⟩,⟨a7⟩,⟨a8⟩⟩
theorem ap10 {A0 A1 A2 A3 A4 A5 A6 A7 A8 A9 : Prop} (a0 : A0) (a1 : A1) (a2 : A2) (a3 : A3) (a4 : A4) (a5 : A5) (a6 : A6) (a7 : A7) (a8 : A8) (a9 : A9) : Aside0 A0 ∧ Aside0 A1 ∧ Aside0 A2 ∧ Aside0 A3 ∧ Aside0 A4 ∧ Aside0 A5 ∧ Aside0 A6 ∧ Aside0 A7 ∧ Aside0 A8 ∧ Aside0 A9:=⟨⟨a0⟩,⟨a1⟩,⟨a2⟩,⟨a3⟩,⟨a4⟩,⟨a5⟩,⟨a6⟩,⟨a7⟩,⟨a8⟩,⟨a9⟩⟩
theorem ap11 {A0 A1 A2 A3 A4 A5 A6 A7 A8 A9 A10 : Prop} (a0 : A0) (a1 : A1) (a2 : A2) (a3 : A3) (a4 : A4) (a5 : A5) (a6 : A6) (a7 : A7) (a8 : A8) (a9 : A9) (a10 : A10) : Aside0 A0 ∧ Aside0 A1 ∧ Aside0 A2 ∧ Aside0 A3 ∧ Aside0 A4 ∧ Aside0 A5 ∧ Aside0 A6 ∧ Aside0 A7 ∧ Aside0 A8 ∧ Aside0 A9 ∧ Aside0 A10:=⟨⟨a0⟩,⟨a1⟩,⟨a2⟩,⟨a3⟩,⟨a4⟩,⟨a5⟩,⟨a6⟩,⟨a7⟩,⟨a8⟩,⟨a9⟩,⟨a10⟩⟩
theorem ap12 {A0 A1 A2 A3 A4 A5 A6 A7 A8 A9 A10 A11 : Prop} (a0 : A0) (a1 : A1) (a2 : A2) (a3 : A3) (a4 : A4) (a5 : A5) (a6 : A6) (a7 : A7) (a8 : A8) (a9 : A9) (a10 : A10) (a11 : A11) : Aside0 A0 ∧ Aside0 A1 ∧ Aside0 A2 ∧ Aside0 A3 ∧ Aside0 A4 ∧ Aside0 A5 ∧ Aside0 A6 ∧ Aside0 A7 ∧ Aside0 A8 ∧ Aside0 A9 ∧ Aside0 A10 ∧ Aside0 A11:=⟨⟨a0⟩,⟨a1⟩,⟨a2⟩,⟨a3⟩,⟨a4⟩,⟨a5⟩,⟨a6⟩,⟨a7⟩,⟨a8⟩,⟨a9⟩,⟨a10⟩,⟨a11⟩⟩
theorem cz1 {w : World} {g : Nat} {t : TypeId} {c0 : Value} (h : Aside0 (w.heap[g]? = some (.cells #[c0] t (0,0)))) : w.cell? ⟨g,0,none⟩ = some c0 ∧ w.frozen? ⟨g,0,none⟩ = false:=⟨(blk_cell h.out 0).trans rfl,blk_frozen h.out 0⟩
theorem cz2 {w : World} {g : Nat} {t : TypeId} {c0 c1 : Value} (h : Aside0 (w.heap[g]? = some (.cells #[c0,c1] t (0,0)))) : w.cell? ⟨g,0,none⟩ = some c0 ∧ w.cell? ⟨g,1,none⟩ = some c1 ∧ w.frozen? ⟨g,0,none⟩ = false ∧ w.frozen? ⟨g,1,none⟩ = false:=⟨(blk_cell h.out 0).trans rfl,(blk_cell h.out 1).trans rfl,blk_frozen h.out 0,blk_frozen h.out 1⟩
theorem cz3 {w : World} {g : Nat} {t : TypeId} {c0 c1 c2 : Value} (h : Aside0 (w.heap[g]? = some (.cells #[c0,c1,c2] t (0,0)))) : w.cell? ⟨g,0,none⟩ = some c0 ∧ w.cell? ⟨g,1,none⟩ = some c1 ∧ w.cell? ⟨g,2,none⟩ = some c2 ∧ w.frozen? ⟨g,0,none⟩ = false ∧ w.frozen? ⟨g,1,none⟩ = false ∧ w.frozen? ⟨g,2,none⟩ = false:=⟨(blk_cell h.out 0).trans rfl,(blk_cell h.out 1).trans rfl,(blk_cell h.out 2).trans rfl,blk_frozen h.out 0,blk_frozen h.out 1,blk_frozen h.out 2⟩
theorem cz4 {w : World} {g : Nat} {t : TypeId} {c0 c1 c2 c3 : Value} (h : Aside0 (w.heap[g]? = some (.cells #[c0,c1,c2,c3] t (0,0)))) : w.cell? ⟨g,0,none⟩ = some c0 ∧ w.cell? ⟨g,1,none⟩ = some c1 ∧ w.cell? ⟨g,2,none⟩ = some c2 ∧ w.cell? ⟨g,3,none⟩ = some c3 ∧ w.frozen? ⟨g,0,none⟩ = false ∧ w.frozen? ⟨g,1,none⟩ = false ∧ w.frozen? ⟨g,2,none⟩ = false ∧ w.frozen? ⟨g,3,none⟩ = false:=⟨(blk_cell h.out 0).trans rfl,(blk_cell h.out 1).trans rfl,(blk_cell h.out 2).trans rfl,(blk_cell h.out 3).trans rfl,blk_frozen h.out 0,blk_frozen h.out 1,blk_frozen h.out 2,blk_frozen h.out 3⟩
theorem cz7 {w : World} {g : Nat} {t : TypeId} {c0 c1 c2 c3 c4 c5 c6 : Value} (h : Aside0 (w.heap[g]? = some (.cells #[c0,c1,c2,c3,c4,c5,c6] t (0,0)))) : w.cell? ⟨g,0,none⟩ = some c0 ∧ w.cell? ⟨g,1,none⟩ = some c1 ∧ w.cell? ⟨g,2,none⟩ = some c2 ∧ w.cell? ⟨g,3,none⟩ = some c3 ∧ w.cell? ⟨g,4,none⟩ = some c4 ∧ w.cell? ⟨g,5,none⟩ = some c5 ∧ w.cell? ⟨g,6,none⟩ = some c6 ∧ w.frozen? ⟨g,0,none⟩ = false ∧ w.frozen? ⟨g,1,none⟩ = false ∧ w.frozen? ⟨g,2,none⟩ = false ∧ w.frozen? ⟨g,3,none⟩ = false ∧ w.frozen? ⟨g,4,none⟩ = false ∧ w.frozen? ⟨g,5,none⟩ = false ∧ w.frozen? ⟨g,6,none⟩ = false:=⟨(blk_cell h.out 0).trans rfl,(blk_cell h.out 1).trans rfl,(blk_cell h.out 2).trans rfl,(blk_cell h.out 3).trans rfl,(blk_cell h.out 4).trans rfl,(blk_cell h.out 5).trans rfl,(blk_cell h.out 6).trans rfl,blk_frozen h.out 0,blk_frozen h.out 1,blk_frozen h.out 2,blk_frozen h.out 3,blk_frozen h.out 4,blk_frozen h.out 5,blk_frozen h.out 6⟩
theorem bxA {w u v : World} {g : Nat} {P : Prop} (hb : Below u.heap.size u v) (hg : g = u.heap.size) (hbox : P) (h : Below w.heap.size w u) : Aside0 (Below w.heap.size w v) ∧ Aside0 P ∧ Aside0 (w.heap.size ≤ g) ∧ Aside0 (w.heap.size ≤ g):=⟨⟨below_step h hb⟩,⟨hbox⟩,⟨hg ▸ below_size h⟩,⟨hg ▸ below_size h⟩⟩
theorem bxB {w u v : World} {g b : Nat} {P : Prop} (o : Obj) (hb : Below u.heap.size u v) (hg : g = u.heap.size) (hbox : P) (h : Below w.heap.size w u) (q : u.heap[b]? = some o) : Aside0 (v.heap[b]? = some o) ∧ Aside0 (Below w.heap.size w v) ∧ Aside0 P ∧ Aside0 (w.heap.size ≤ g) ∧ Aside0 (w.heap.size ≤ g) ∧ Aside0 (b ≠ g) ∧ Aside0 (g ≠ b):=⟨⟨blk_below q hb⟩,⟨below_step h hb⟩,⟨hbox⟩,⟨hg ▸ below_size h⟩,⟨hg ▸ below_size h⟩,⟨hg ▸ Nat.ne_of_lt (blk_lt q)⟩,⟨hg ▸ Nat.ne_of_gt (blk_lt q)⟩⟩
theorem bnd {α β : Type} {o : Option α} {f : α → Option β} {r : β} (h : o.bind f = some r) : ∃ t,Aside0 (o = some t) ∧ f t = some r:=(Option.bind_eq_some_iff.mp h).imp fun _ h=>⟨⟨h.1⟩,h.2⟩
theorem clB {w v : World} {a : Addr} {x : Value} (h : Aside0 (Below w.heap.size w v)) (hx : w.cell? a = some x) : v.cell? a = some x:=(h.out.cell (World.block_lt_of_cell? w _ hx)).trans hx
theorem eqT {a b : Int} (h : a = b) : (a == b) = true ∧ (a != b) = false:=⟨beq_iff_eq.mpr h,bne_eq_false_iff_eq.mpr h⟩
theorem eqF {a b : Int} (h : ¬ a = b) : (a == b) = false ∧ (a != b) = true:=⟨beq_eq_false_iff_ne.mpr h,bne_iff_ne.mpr h⟩
end Go.Proofs.Ytfbocgagfodgnaa.P

namespace Go.Proofs.Ytfbocgagfodgnaa.P
open Go.RowKit Go.Proofs.YtfbocgagfodgnaaW.PrintWords Go.Proofs.YtfbocgagfodgnaaW.PrintLast Go.Proofs.YtfbocgagfodgnaaW.PrintMore
open Go.Proofs.YtfbocgagfodgnaaW.PrintWords renaming Aside0.mk → O
open Option renaming some.inj → J
attribute [local go_sem] max2_int min2_int max_two min_two max_three min_three max_four min_four
set_option linter.unusedVariables false
set_option linter.unusedSimpArgs false
def spec_NumOk.f (a0 : Int) : Option (Bool):=if a0 ≥ (-999) then (some (decide (a0 ≤ 999))) else (some false)
private theorem y56_ {Z : Prop} (h : Z:=by first | rfl | (simp;done) | (simp [*];done)) : Z:=h
private theorem y57_ {A Z : Prop} (a0 : Aside0 A) (h : A → Z:=by intro h0_;(with_reducible repeat (first | refine blk_drewN ?_ _ | refine blk_drew ?_ | refine blk_alloc ?_ _));exact h0_) : Z:=h a0.out
private theorem y58_ {A B Z : Prop} (a0 : Aside0 A) (a1 : Aside0 B) (h : A → B → Z:=by intro h0_ h1_;repeat (first | (with_reducible first | exact h0_ | apply below_alloc | apply pw_below_drewN | apply below_drew1 | refine below_set ?_ h1_) | exact h0_)) : Z:=h a0.out a1.out
private theorem y59_ {Z : Prop} (h : Z:=by first | rfl | (simp [errW_none,errW_some] <;> rfl) | (simp [*,errW_none,errW_some] <;> rfl)) : Z:=h
private theorem y60_ {A B Z : Prop} (a0 : Aside0 A) (a1 : Aside0 B) (h : A → B → Z:=by intro h0_ h1_;repeat (first | exact (Kd.C_below h0_ h1_) | (with_reducible refine Kd.C_alloc ?_ _) | (with_reducible refine Kd.C_drewN ?_ _) | (with_reducible refine Kd.C_drew ?_))) : Z:=h a0.out a1.out
private theorem y61_ {A Z : Prop} (a0 : Aside0 A) (h : A → Z:=by intro h0_;repeat (first | (with_reducible first | exact h0_ | apply below_alloc | apply pw_below_drewN | apply below_drew1) | exact h0_)) : Z:=h a0.out
set_option maxHeartbeats 8000000 in
set_option maxRecDepth 100000 in
theorem spec_NumOk.calls (a0 : Int) (r : Bool) (w : World) (h : spec_NumOk.f a0 = some r) :
  Calls Try.prog 56 #[.int .i64 a0] w fun e w'=>e = .returned (.bool r) ∧ Drawn0 w w':=by
 have H : (if a0 ≥ (-999) then (some (decide (a0 ≤ 999))) else (some false)) = some r:=h;clear h
 by_cases c2 : a0 ≥ (-999)
 ·rw [if_pos c2] at H;have c2b0 : decide ((-999) ≤ a0) = true:=decide_eq_true c2;clear c2;obtain rfl:=J H;go_enter Try.func56,Try.ntmps56
  go_wp2
  go_ret
  exact ⟨y56_,by repeat (first | exact Drawn0.refl _ | apply Drawn0.step)⟩
 ·rw [if_neg c2] at H;have c2b0 : decide ((-999) ≤ a0) = false:=decide_eq_false c2;clear c2;obtain rfl:=J H;go_enter Try.func56,Try.ntmps56
  go_wp2
  go_ret
  exact ⟨y56_,by repeat (first | exact Drawn0.refl _ | apply Drawn0.step)⟩
mutual
def spec_l2Leaf.j0 : Nat → Int → Bool → Int → Int → Int → Int → List (S69) → List (S69) → Option (Bool)
 | 0,_,_,_,_,_,_,_,_=>none
 | k + 1,x1,x5,x182000,x182001,x182002,x182003,x182004,x182005=>if x182002 ≥ 0 then (spec_l2Leaf.j1 k x1 x5 (decide (x182002 < 3)) x182000 x182001 x182002 x182003 x182004 x182005) else (spec_l2Leaf.j1 k x1 x5 false x182000 x182001 x182002 x182003 x182004 x182005)
def spec_l2Leaf.j1 : Nat → Int → Bool → Bool → Int → Int → Int → Int → List (S69) → List (S69) → Option (Bool)
 | 0,_,_,_,_,_,_,_,_,_=>none
 | k + 1,x1,x5,x6,x182000,x182001,x182002,x182003,x182004,x182005=>if x182000 = 1 then (if x5 = true then (if x182002 = 0 then ((spec_NumOk.f x182003).bind fun t182=>(some t182)) else (some false)) else (some false)) else (if x182000 = 2 then (if x5 = true then (if x6 = true then (if x182003 ≥ 1 then (some (decide (x182003 ≤ 5))) else (some false)) else (some false)) else (some false)) else (if x182000 = 3 then (if x5 = true then (if x182002 ≥ 0 then (if x182002 < 3 then (some (x182003 == 0)) else (some false)) else (some false)) else (some false)) else (if x182000 = 4 then (if x182001 ≥ 0 then (if x182001 < 3 then (if x6 = true then (some (x182003 == 0)) else (some false)) else (some false)) else (some false)) else (if x182000 = 5 then (if x5 = true then (if x182002 = 0 then (some (x182003 == 0)) else (some false)) else (some false)) else (if x182000 = 9 then (if x1 ≥ 0 then (if x182001 ≥ 0 then (if x182001 < 2 then (if x182002 = 0 then (some (x182003 == 0)) else (some false)) else (some false)) else (some false)) else (some false)) else (if x182000 = 10 then (if x182001 ≥ 0 then (if x182001 < 2 then (if x182002 = 0 then (some (x182003 == 0)) else (some false)) else (some false)) else (some false)) else (if x182000 = 11 then (if x182001 = 0 then (if x182002 = 0 then (some (x182003 == 0)) else (some false)) else (some false)) else (some false))))))))
end
def spec_l2Leaf.f (k : Nat) (a0_0 : Int) (a0_1 : Int) (a0_2 : Int) (a0_3 : Int) (l0_4 : List (S69)) (l0_5 : List (S69)) (a1 : Int) : Option (Bool):=if a0_1 ≥ 0 then (spec_l2Leaf.j0 k a1 (decide (a0_1 < 3)) a0_0 a0_1 a0_2 a0_3 l0_4 l0_5) else (spec_l2Leaf.j0 k a1 false a0_0 a0_1 a0_2 a0_3 l0_4 l0_5)
set_option maxHeartbeats 8000000 in
set_option maxRecDepth 100000 in
theorem spec_l2Leaf.calls (k : Nat) (a0_0 : Int) (a0_1 : Int) (a0_2 : Int) (a0_3 : Int) (A0_4 : Option Addr) (c0_4 : Nat) (l0_4 : List (S69)) (A0_5 : Option Addr) (c0_5 : Nat) (l0_5 : List (S69)) (a1 : Int) (r : Bool) (w : World) (hr0_4 : Kd.C k69 w A0_4 l0_4.length l0_4) (hc0_4 : l0_4.length ≤ c0_4) (hr0_5 : Kd.C k69 w A0_5 l0_5.length l0_5) (hc0_5 : l0_5.length ≤ c0_5) (h : spec_l2Leaf.f k a0_0 a0_1 a0_2 a0_3 l0_4 l0_5 a1 = some r) :
  Calls Try.prog 58 #[.agg #[.int .i64 a0_0,.int .i64 a0_1,.int .i64 a0_2,.int .i64 a0_3,.slice A0_4 l0_4.length c0_4,.slice A0_5 l0_5.length c0_5],.int .i64 a1] w fun e w'=>e = .returned (.bool r) ∧ Below w.heap.size w w':=by
 have hu69:=Try.underlying69;have HR0_4:=O hr0_4;have HC0_4:=O hc0_4;clear hr0_4 hc0_4;have HR0_5:=O hr0_5;have HC0_5:=O hc0_5;clear hr0_5 hc0_5;have HB:=O (Below.refl w.heap.size w);have H : (if a0_1 ≥ 0 then (spec_l2Leaf.j0 k a1 (decide (a0_1 < 3)) a0_0 a0_1 a0_2 a0_3 l0_4 l0_5) else (spec_l2Leaf.j0 k a1 false a0_0 a0_1 a0_2 a0_3 l0_4 l0_5)) = some r:=h;clear h;have HC3:=O H;clear H;go_enter Try.func58,Try.ntmps58
 go_upto_region 1 with (first | ((with_reducible refine gate_dst (N:=2) rfl ?_);refine box_event ?hg (N:=2) ?hd (cs:=#[.int .i64 a0_0,.int .i64 a0_1,.int .i64 a0_2,.int .i64 a0_3,.slice A0_4 l0_4.length c0_4,.slice A0_5 l0_5.length c0_5]) (t:=69) ?hr ?_;(case hd=>rfl);(case hg=>rfl);(case hr=>first | (go_simp;done) | (go_simp;rfl));intro gb181 hg w4 hbox hb;have n0_:=bxA hb hg hbox (q0_ HB);clear HB;obtain ⟨HB,BK181,GW181,GE181⟩:=n0_;clear hb hbox hg))
 (try simp only [Act.put,List.setIfInBounds_toArray,List.set_cons_zero,List.set_cons_succ])
 go_cut [5] (fun v5 wc=>∃ (kq : Nat) (x5_2 : Bool),v5 = .bool x5_2 ∧ Aside0 (spec_l2Leaf.j0 kq a1 x5_2 a0_0 a0_1 a0_2 a0_3 l0_4 l0_5 = some r) ∧ Aside0 (kq ≤ k) ∧ Aside0 (wc.heap[gb181]? = some (.cells #[.int .i64 a0_0,.int .i64 a0_1,.int .i64 a0_2,.int .i64 a0_3,(.slice A0_4 l0_4.length c0_4),(.slice A0_5 l0_5.length c0_5)] 69 (0,0))) ∧ Aside0 (Below w.heap.size w wc))
 case first =>
  have H:=HC3.out;clear HC3
  by_cases c5 : a0_1 ≥ 0
  ·rw [if_pos c5] at H;have c5b0 : decide (0 ≤ a0_1) = true:=decide_eq_true c5;clear c5
   (first | rw [c5b0] | (simp only [i64_w,i32_w];rw [c5b0]) | skip)
   have H':=O H;clear H;obtain ⟨hcz6_0,hcz6_1,hcz6_2,hcz6_3,hcz6_4,hcz6_5,hfz6_0,hfz6_1,hfz6_2,hfz6_3,hfz6_4,hfz6_5⟩:=bz6_ BK181
   go_wp2
   go_meet
   case rel=>exact ⟨_,(decide (a0_1 < 3)),(y56_),H',⟨by first | omega | exact Nat.le_refl _⟩,⟨y57_ BK181⟩,⟨y58_ HB GE181⟩⟩
  ·rw [if_neg c5] at H;have c5b0 : decide (0 ≤ a0_1) = false:=decide_eq_false c5;clear c5
   (first | rw [c5b0] | (simp only [i64_w,i32_w];rw [c5b0]) | skip)
   have H':=O H;clear H;obtain ⟨hcz7_0,hcz7_1,hcz7_2,hcz7_3,hcz7_4,hcz7_5,hfz7_0,hfz7_1,hfz7_2,hfz7_3,hfz7_4,hfz7_5⟩:=bz6_ BK181
   go_wp2
   go_meet
   case rel=>exact ⟨_,(false),(y56_),H',⟨by first | omega | exact Nat.le_refl _⟩,⟨y57_ BK181⟩,⟨y58_ HB GE181⟩⟩
 case rest =>
  clear HC3;obtain ⟨kq,x5_2,rfl,HA,HJ2,BK181,HB⟩:=hcut
  cases kq with
  | zero=>exact absurd HA.out (by simp [spec_l2Leaf.j0])
  | succ kj2 =>
   have H:=HA.out;clear HA;simp only [spec_l2Leaf.j0] at H;have HC8:=O H;clear H
   go_upto_region 2 with (fail)
   go_cut [6] (fun v6 wc=>∃ (kq : Nat) (x6_7 : Bool),v6 = .bool x6_7 ∧ Aside0 (spec_l2Leaf.j1 kq a1 x5_2 x6_7 a0_0 a0_1 a0_2 a0_3 l0_4 l0_5 = some r) ∧ Aside0 (kq ≤ kj2) ∧ Aside0 (wc.heap[gb181]? = some (.cells #[.int .i64 a0_0,.int .i64 a0_1,.int .i64 a0_2,.int .i64 a0_3,(.slice A0_4 l0_4.length c0_4),(.slice A0_5 l0_5.length c0_5)] 69 (0,0))) ∧ Aside0 (Below w.heap.size w wc))
   case first =>
    have H:=HC8.out;clear HC8
    by_cases c9 : a0_2 ≥ 0
    ·rw [if_pos c9] at H;have c9b0 : decide (0 ≤ a0_2) = true:=decide_eq_true c9;clear c9
     (first | rw [c9b0] | (simp only [i64_w,i32_w];rw [c9b0]) | skip)
     have H':=O H;clear H;obtain ⟨hcz10_0,hcz10_1,hcz10_2,hcz10_3,hcz10_4,hcz10_5,hfz10_0,hfz10_1,hfz10_2,hfz10_3,hfz10_4,hfz10_5⟩:=bz6_ BK181
     go_wp2
     go_meet
     case rel=>exact ⟨_,(decide (a0_2 < 3)),(y56_),H',⟨by have:=HJ2.out;first | omega | exact Nat.le_refl _⟩,⟨y57_ BK181⟩,⟨y58_ HB GE181⟩⟩
    ·rw [if_neg c9] at H;have c9b0 : decide (0 ≤ a0_2) = false:=decide_eq_false c9;clear c9
     (first | rw [c9b0] | (simp only [i64_w,i32_w];rw [c9b0]) | skip)
     have H':=O H;clear H;obtain ⟨hcz11_0,hcz11_1,hcz11_2,hcz11_3,hcz11_4,hcz11_5,hfz11_0,hfz11_1,hfz11_2,hfz11_3,hfz11_4,hfz11_5⟩:=bz6_ BK181
     go_wp2
     go_meet
     case rel=>exact ⟨_,(false),(y56_),H',⟨by have:=HJ2.out;first | omega | exact Nat.le_refl _⟩,⟨y57_ BK181⟩,⟨y58_ HB GE181⟩⟩
   case rest =>
    clear HC8;obtain ⟨kq,x6_7,rfl,HA,HJ7,BK181,HB⟩:=hcut
    cases kq with
    | zero=>exact absurd HA.out (by simp [spec_l2Leaf.j1])
    | succ kj7 =>
     have H:=HA.out;clear HA;simp only [spec_l2Leaf.j1] at H
     by_cases c12 : a0_0 = 1
     ·rw [if_pos c12] at H;obtain ⟨c12b0,c12b1⟩:=eqT c12;clear c12
      by_cases c13 : x5_2 = true
      ·subst c13
       rw [if_pos rfl] at H
       by_cases c14 : a0_2 = 0
       ·rw [if_pos c14] at H;obtain ⟨c14b0,c14b1⟩:=eqT c14;clear c14;obtain ⟨t182,A15,H⟩:=bnd H;obtain rfl:=J H;obtain ⟨hcz16_0,hcz16_1,hcz16_2,hcz16_3,hcz16_4,hcz16_5,hfz16_0,hfz16_1,hfz16_2,hfz16_3,hfz16_4,hfz16_5⟩:=bz6_ BK181
        go_wp2_with (first | (go_at_call 56;(with_reducible refine (spec_NumOk.calls a0_3 t182 _ A15.out).mono ?_);rintro e w' ⟨rfl,⟨nd,rfl⟩⟩))
        go_ret
        exact ⟨y59_,y58_ HB GE181⟩
       ·rw [if_neg c14] at H;obtain ⟨c14b0,c14b1⟩:=eqF c14;obtain rfl:=J H;obtain ⟨hcz17_0,hcz17_1,hcz17_2,hcz17_3,hcz17_4,hcz17_5,hfz17_0,hfz17_1,hfz17_2,hfz17_3,hfz17_4,hfz17_5⟩:=bz6_ BK181
        go_wp2
        go_ret
        exact ⟨y59_,y58_ HB GE181⟩
      ·replace c13:=Bool.eq_false_iff.mpr c13;subst c13
       rw [if_neg (show ¬ (false = true) by decide)] at H;obtain rfl:=J H;obtain ⟨hcz18_0,hcz18_1,hcz18_2,hcz18_3,hcz18_4,hcz18_5,hfz18_0,hfz18_1,hfz18_2,hfz18_3,hfz18_4,hfz18_5⟩:=bz6_ BK181
       go_wp2
       go_ret
       exact ⟨y59_,y58_ HB GE181⟩
     ·rw [if_neg c12] at H;obtain ⟨c12b0,c12b1⟩:=eqF c12
      by_cases c19 : a0_0 = 2
      ·rw [if_pos c19] at H;obtain ⟨c19b0,c19b1⟩:=eqT c19;clear c19
       by_cases c20 : x5_2 = true
       ·subst c20
        rw [if_pos rfl] at H
        by_cases c21 : x6_7 = true
        ·subst c21
         rw [if_pos rfl] at H
         by_cases c22 : a0_3 ≥ 1
         ·rw [if_pos c22] at H;have c22b0 : decide (1 ≤ a0_3) = true:=decide_eq_true c22;clear c22;obtain rfl:=J H;obtain ⟨hcz23_0,hcz23_1,hcz23_2,hcz23_3,hcz23_4,hcz23_5,hfz23_0,hfz23_1,hfz23_2,hfz23_3,hfz23_4,hfz23_5⟩:=bz6_ BK181
          go_wp2
          go_ret
          exact ⟨y59_,y58_ HB GE181⟩
         ·rw [if_neg c22] at H;have c22b0 : decide (1 ≤ a0_3) = false:=decide_eq_false c22;clear c22;obtain rfl:=J H;obtain ⟨hcz24_0,hcz24_1,hcz24_2,hcz24_3,hcz24_4,hcz24_5,hfz24_0,hfz24_1,hfz24_2,hfz24_3,hfz24_4,hfz24_5⟩:=bz6_ BK181
          go_wp2
          go_ret
          exact ⟨y59_,y58_ HB GE181⟩
        ·replace c21:=Bool.eq_false_iff.mpr c21;subst c21
         rw [if_neg (show ¬ (false = true) by decide)] at H;obtain rfl:=J H;obtain ⟨hcz25_0,hcz25_1,hcz25_2,hcz25_3,hcz25_4,hcz25_5,hfz25_0,hfz25_1,hfz25_2,hfz25_3,hfz25_4,hfz25_5⟩:=bz6_ BK181
         go_wp2
         go_ret
         exact ⟨y59_,y58_ HB GE181⟩
       ·replace c20:=Bool.eq_false_iff.mpr c20;subst c20
        rw [if_neg (show ¬ (false = true) by decide)] at H;obtain rfl:=J H;obtain ⟨hcz26_0,hcz26_1,hcz26_2,hcz26_3,hcz26_4,hcz26_5,hfz26_0,hfz26_1,hfz26_2,hfz26_3,hfz26_4,hfz26_5⟩:=bz6_ BK181
        go_wp2
        go_ret
        exact ⟨y59_,y58_ HB GE181⟩
      ·rw [if_neg c19] at H;obtain ⟨c19b0,c19b1⟩:=eqF c19
       by_cases c27 : a0_0 = 3
       ·rw [if_pos c27] at H;obtain ⟨c27b0,c27b1⟩:=eqT c27;clear c27
        by_cases c28 : x5_2 = true
        ·subst c28
         rw [if_pos rfl] at H
         by_cases c29 : a0_2 ≥ 0
         ·rw [if_pos c29] at H;have c29b0 : decide (0 ≤ a0_2) = true:=decide_eq_true c29;clear c29
          by_cases c30 : a0_2 < 3
          ·rw [if_pos c30] at H;have c30b0 : decide (a0_2 < 3) = true:=decide_eq_true c30;clear c30;obtain rfl:=J H;obtain ⟨hcz31_0,hcz31_1,hcz31_2,hcz31_3,hcz31_4,hcz31_5,hfz31_0,hfz31_1,hfz31_2,hfz31_3,hfz31_4,hfz31_5⟩:=bz6_ BK181
           go_wp2
           go_ret
           exact ⟨y59_,y58_ HB GE181⟩
          ·rw [if_neg c30] at H;have c30b0 : decide (a0_2 < 3) = false:=decide_eq_false c30;clear c30;obtain rfl:=J H;obtain ⟨hcz32_0,hcz32_1,hcz32_2,hcz32_3,hcz32_4,hcz32_5,hfz32_0,hfz32_1,hfz32_2,hfz32_3,hfz32_4,hfz32_5⟩:=bz6_ BK181
           go_wp2
           go_ret
           exact ⟨y59_,y58_ HB GE181⟩
         ·rw [if_neg c29] at H;have c29b0 : decide (0 ≤ a0_2) = false:=decide_eq_false c29;clear c29;obtain rfl:=J H;obtain ⟨hcz33_0,hcz33_1,hcz33_2,hcz33_3,hcz33_4,hcz33_5,hfz33_0,hfz33_1,hfz33_2,hfz33_3,hfz33_4,hfz33_5⟩:=bz6_ BK181
          go_wp2
          go_ret
          exact ⟨y59_,y58_ HB GE181⟩
        ·replace c28:=Bool.eq_false_iff.mpr c28;subst c28
         rw [if_neg (show ¬ (false = true) by decide)] at H;obtain rfl:=J H;obtain ⟨hcz34_0,hcz34_1,hcz34_2,hcz34_3,hcz34_4,hcz34_5,hfz34_0,hfz34_1,hfz34_2,hfz34_3,hfz34_4,hfz34_5⟩:=bz6_ BK181
         go_wp2
         go_ret
         exact ⟨y59_,y58_ HB GE181⟩
       ·rw [if_neg c27] at H;obtain ⟨c27b0,c27b1⟩:=eqF c27
        by_cases c35 : a0_0 = 4
        ·rw [if_pos c35] at H;obtain ⟨c35b0,c35b1⟩:=eqT c35;clear c35
         by_cases c36 : a0_1 ≥ 0
         ·rw [if_pos c36] at H;have c36b0 : decide (0 ≤ a0_1) = true:=decide_eq_true c36;clear c36
          by_cases c37 : a0_1 < 3
          ·rw [if_pos c37] at H;have c37b0 : decide (a0_1 < 3) = true:=decide_eq_true c37;clear c37
           by_cases c38 : x6_7 = true
           ·subst c38
            rw [if_pos rfl] at H;obtain rfl:=J H;obtain ⟨hcz39_0,hcz39_1,hcz39_2,hcz39_3,hcz39_4,hcz39_5,hfz39_0,hfz39_1,hfz39_2,hfz39_3,hfz39_4,hfz39_5⟩:=bz6_ BK181
            go_wp2
            go_ret
            exact ⟨y59_,y58_ HB GE181⟩
           ·replace c38:=Bool.eq_false_iff.mpr c38;subst c38
            rw [if_neg (show ¬ (false = true) by decide)] at H;obtain rfl:=J H;obtain ⟨hcz40_0,hcz40_1,hcz40_2,hcz40_3,hcz40_4,hcz40_5,hfz40_0,hfz40_1,hfz40_2,hfz40_3,hfz40_4,hfz40_5⟩:=bz6_ BK181
            go_wp2
            go_ret
            exact ⟨y59_,y58_ HB GE181⟩
          ·rw [if_neg c37] at H;have c37b0 : decide (a0_1 < 3) = false:=decide_eq_false c37;clear c37;obtain rfl:=J H;obtain ⟨hcz41_0,hcz41_1,hcz41_2,hcz41_3,hcz41_4,hcz41_5,hfz41_0,hfz41_1,hfz41_2,hfz41_3,hfz41_4,hfz41_5⟩:=bz6_ BK181
           go_wp2
           go_ret
           exact ⟨y59_,y58_ HB GE181⟩
         ·rw [if_neg c36] at H;have c36b0 : decide (0 ≤ a0_1) = false:=decide_eq_false c36;clear c36;obtain rfl:=J H;obtain ⟨hcz42_0,hcz42_1,hcz42_2,hcz42_3,hcz42_4,hcz42_5,hfz42_0,hfz42_1,hfz42_2,hfz42_3,hfz42_4,hfz42_5⟩:=bz6_ BK181
          go_wp2
          go_ret
          exact ⟨y59_,y58_ HB GE181⟩
        ·rw [if_neg c35] at H;obtain ⟨c35b0,c35b1⟩:=eqF c35
         by_cases c43 : a0_0 = 5
         ·rw [if_pos c43] at H;obtain ⟨c43b0,c43b1⟩:=eqT c43;clear c43
          by_cases c44 : x5_2 = true
          ·subst c44
           rw [if_pos rfl] at H
           by_cases c45 : a0_2 = 0
           ·rw [if_pos c45] at H;obtain ⟨c45b0,c45b1⟩:=eqT c45;clear c45;obtain rfl:=J H;obtain ⟨hcz46_0,hcz46_1,hcz46_2,hcz46_3,hcz46_4,hcz46_5,hfz46_0,hfz46_1,hfz46_2,hfz46_3,hfz46_4,hfz46_5⟩:=bz6_ BK181
            go_wp2
            go_ret
            exact ⟨y59_,y58_ HB GE181⟩
           ·rw [if_neg c45] at H;obtain ⟨c45b0,c45b1⟩:=eqF c45;obtain rfl:=J H;obtain ⟨hcz47_0,hcz47_1,hcz47_2,hcz47_3,hcz47_4,hcz47_5,hfz47_0,hfz47_1,hfz47_2,hfz47_3,hfz47_4,hfz47_5⟩:=bz6_ BK181
            go_wp2
            go_ret
            exact ⟨y59_,y58_ HB GE181⟩
          ·replace c44:=Bool.eq_false_iff.mpr c44;subst c44
           rw [if_neg (show ¬ (false = true) by decide)] at H;obtain rfl:=J H;obtain ⟨hcz48_0,hcz48_1,hcz48_2,hcz48_3,hcz48_4,hcz48_5,hfz48_0,hfz48_1,hfz48_2,hfz48_3,hfz48_4,hfz48_5⟩:=bz6_ BK181
           go_wp2
           go_ret
           exact ⟨y59_,y58_ HB GE181⟩
         ·rw [if_neg c43] at H;obtain ⟨c43b0,c43b1⟩:=eqF c43
          by_cases c49 : a0_0 = 9
          ·rw [if_pos c49] at H;obtain ⟨c49b0,c49b1⟩:=eqT c49;clear c49
           by_cases c50 : a1 ≥ 0
           ·rw [if_pos c50] at H;have c50b0 : decide (0 ≤ a1) = true:=decide_eq_true c50;clear c50
            by_cases c51 : a0_1 ≥ 0
            ·rw [if_pos c51] at H;have c51b0 : decide (0 ≤ a0_1) = true:=decide_eq_true c51;clear c51
             by_cases c52 : a0_1 < 2
             ·rw [if_pos c52] at H;have c52b0 : decide (a0_1 < 2) = true:=decide_eq_true c52;clear c52
              by_cases c53 : a0_2 = 0
              ·rw [if_pos c53] at H;obtain ⟨c53b0,c53b1⟩:=eqT c53;clear c53;obtain rfl:=J H;obtain ⟨hcz54_0,hcz54_1,hcz54_2,hcz54_3,hcz54_4,hcz54_5,hfz54_0,hfz54_1,hfz54_2,hfz54_3,hfz54_4,hfz54_5⟩:=bz6_ BK181
               go_wp2
               go_ret
               exact ⟨y59_,y58_ HB GE181⟩
              ·rw [if_neg c53] at H;obtain ⟨c53b0,c53b1⟩:=eqF c53;obtain rfl:=J H;obtain ⟨hcz55_0,hcz55_1,hcz55_2,hcz55_3,hcz55_4,hcz55_5,hfz55_0,hfz55_1,hfz55_2,hfz55_3,hfz55_4,hfz55_5⟩:=bz6_ BK181
               go_wp2
               go_ret
               exact ⟨y59_,y58_ HB GE181⟩
             ·rw [if_neg c52] at H;have c52b0 : decide (a0_1 < 2) = false:=decide_eq_false c52;clear c52;obtain rfl:=J H;obtain ⟨hcz56_0,hcz56_1,hcz56_2,hcz56_3,hcz56_4,hcz56_5,hfz56_0,hfz56_1,hfz56_2,hfz56_3,hfz56_4,hfz56_5⟩:=bz6_ BK181
              go_wp2
              go_ret
              exact ⟨y59_,y58_ HB GE181⟩
            ·rw [if_neg c51] at H;have c51b0 : decide (0 ≤ a0_1) = false:=decide_eq_false c51;clear c51;obtain rfl:=J H;obtain ⟨hcz57_0,hcz57_1,hcz57_2,hcz57_3,hcz57_4,hcz57_5,hfz57_0,hfz57_1,hfz57_2,hfz57_3,hfz57_4,hfz57_5⟩:=bz6_ BK181
             go_wp2
             go_ret
             exact ⟨y59_,y58_ HB GE181⟩
           ·rw [if_neg c50] at H;have c50b0 : decide (0 ≤ a1) = false:=decide_eq_false c50;clear c50;obtain rfl:=J H;obtain ⟨hcz58_0,hcz58_1,hcz58_2,hcz58_3,hcz58_4,hcz58_5,hfz58_0,hfz58_1,hfz58_2,hfz58_3,hfz58_4,hfz58_5⟩:=bz6_ BK181
            go_wp2
            go_ret
            exact ⟨y59_,y58_ HB GE181⟩
          ·rw [if_neg c49] at H;obtain ⟨c49b0,c49b1⟩:=eqF c49
           by_cases c59 : a0_0 = 10
           ·rw [if_pos c59] at H;obtain ⟨c59b0,c59b1⟩:=eqT c59;clear c59
            by_cases c60 : a0_1 ≥ 0
            ·rw [if_pos c60] at H;have c60b0 : decide (0 ≤ a0_1) = true:=decide_eq_true c60;clear c60
             by_cases c61 : a0_1 < 2
             ·rw [if_pos c61] at H;have c61b0 : decide (a0_1 < 2) = true:=decide_eq_true c61;clear c61
              by_cases c62 : a0_2 = 0
              ·rw [if_pos c62] at H;obtain ⟨c62b0,c62b1⟩:=eqT c62;clear c62;obtain rfl:=J H;obtain ⟨hcz63_0,hcz63_1,hcz63_2,hcz63_3,hcz63_4,hcz63_5,hfz63_0,hfz63_1,hfz63_2,hfz63_3,hfz63_4,hfz63_5⟩:=bz6_ BK181
               go_wp2
               go_ret
               exact ⟨y59_,y58_ HB GE181⟩
              ·rw [if_neg c62] at H;obtain ⟨c62b0,c62b1⟩:=eqF c62;obtain rfl:=J H;obtain ⟨hcz64_0,hcz64_1,hcz64_2,hcz64_3,hcz64_4,hcz64_5,hfz64_0,hfz64_1,hfz64_2,hfz64_3,hfz64_4,hfz64_5⟩:=bz6_ BK181
               go_wp2
               go_ret
               exact ⟨y59_,y58_ HB GE181⟩
             ·rw [if_neg c61] at H;have c61b0 : decide (a0_1 < 2) = false:=decide_eq_false c61;clear c61;obtain rfl:=J H;obtain ⟨hcz65_0,hcz65_1,hcz65_2,hcz65_3,hcz65_4,hcz65_5,hfz65_0,hfz65_1,hfz65_2,hfz65_3,hfz65_4,hfz65_5⟩:=bz6_ BK181
              go_wp2
              go_ret
              exact ⟨y59_,y58_ HB GE181⟩
            ·rw [if_neg c60] at H;have c60b0 : decide (0 ≤ a0_1) = false:=decide_eq_false c60;clear c60;obtain rfl:=J H;obtain ⟨hcz66_0,hcz66_1,hcz66_2,hcz66_3,hcz66_4,hcz66_5,hfz66_0,hfz66_1,hfz66_2,hfz66_3,hfz66_4,hfz66_5⟩:=bz6_ BK181
             go_wp2
             go_ret
             exact ⟨y59_,y58_ HB GE181⟩
           ·rw [if_neg c59] at H;obtain ⟨c59b0,c59b1⟩:=eqF c59
            by_cases c67 : a0_0 = 11
            ·rw [if_pos c67] at H;obtain ⟨c67b0,c67b1⟩:=eqT c67;clear c67
             by_cases c68 : a0_1 = 0
             ·rw [if_pos c68] at H;obtain ⟨c68b0,c68b1⟩:=eqT c68;clear c68
              by_cases c69 : a0_2 = 0
              ·rw [if_pos c69] at H;obtain ⟨c69b0,c69b1⟩:=eqT c69;clear c69;obtain rfl:=J H;obtain ⟨hcz70_0,hcz70_1,hcz70_2,hcz70_3,hcz70_4,hcz70_5,hfz70_0,hfz70_1,hfz70_2,hfz70_3,hfz70_4,hfz70_5⟩:=bz6_ BK181
               go_wp2
               go_ret
               exact ⟨y59_,y58_ HB GE181⟩
              ·rw [if_neg c69] at H;obtain ⟨c69b0,c69b1⟩:=eqF c69;obtain rfl:=J H;obtain ⟨hcz71_0,hcz71_1,hcz71_2,hcz71_3,hcz71_4,hcz71_5,hfz71_0,hfz71_1,hfz71_2,hfz71_3,hfz71_4,hfz71_5⟩:=bz6_ BK181
               go_wp2
               go_ret
               exact ⟨y59_,y58_ HB GE181⟩
             ·rw [if_neg c68] at H;obtain ⟨c68b0,c68b1⟩:=eqF c68;obtain rfl:=J H;obtain ⟨hcz72_0,hcz72_1,hcz72_2,hcz72_3,hcz72_4,hcz72_5,hfz72_0,hfz72_1,hfz72_2,hfz72_3,hfz72_4,hfz72_5⟩:=bz6_ BK181
              go_wp2
              go_ret
              exact ⟨y59_,y58_ HB GE181⟩
            ·rw [if_neg c67] at H;obtain ⟨c67b0,c67b1⟩:=eqF c67;obtain rfl:=J H;obtain ⟨hcz73_0,hcz73_1,hcz73_2,hcz73_3,hcz73_4,hcz73_5,hfz73_0,hfz73_1,hfz73_2,hfz73_3,hfz73_4,hfz73_5⟩:=bz6_ BK181
             go_wp2
             go_ret
             exact ⟨y59_,y58_ HB GE181⟩
mutual
def spec_l2Stmt.j0 : Nat → Int → Int → Bool → Int → Int → Int → Int → List (S69) → List (S69) → Option (Bool)
 | 0,_,_,_,_,_,_,_,_,_=>none
 | k + 1,x1,x2,x19,x184000,x184001,x184002,x184003,x184004,x184005=>if x19 = true then (some false) else (if x184000 = 6 then (spec_l2Stmt.j1 k x1 x2 x184000 (x184000 == 6) x184000 x184001 x184002 x184003 x184004 x184005) else (spec_l2Stmt.j1 k x1 x2 x184000 (x184000 == 7) x184000 x184001 x184002 x184003 x184004 x184005))
def spec_l2Stmt.j1 : Nat → Int → Int → Int → Bool → Int → Int → Int → Int → List (S69) → List (S69) → Option (Bool)
 | 0,_,_,_,_,_,_,_,_,_,_=>none
 | k + 1,x1,x2,x21,x22,x184000,x184001,x184002,x184003,x184004,x184005=>if x22 = true then (if x184001 ≥ 0 then (if x184001 < 3 then (if x184002 = 0 then (if x184003 = 0 then ((spec_l2List.f k x184004 (wrap64 (x1 - 1)) x2).bind fun t184=>(if t184 = true then ((spec_l2List.f k x184005 (wrap64 (x1 - 1)) x2).bind fun t185=>(some t185)) else (some false))) else (some false)) else (some false)) else (some false)) else (some false)) else (if x21 = 8 then (if x2 < 0 then (if x184001 ≥ 0 then (if x184001 < 2 then (if x184002 = 0 then (if x184003 = 0 then ((spec_l2List.f k x184004 (wrap64 (x1 - 1)) x184001).bind fun t186=>(some t186)) else (some false)) else (some false)) else (some false)) else (some false)) else (some false)) else (if (x184004.length : Int) = 0 then ((spec_l2Leaf.f k x184000 x184001 x184002 x184003 x184004 x184005 x2).bind fun t187=>(some t187)) else (some false)))
def spec_l2Stmt.f : Nat → Int → Int → Int → Int → List (S69) → List (S69) → Int → Int → Option (Bool)
 | 0,_,_,_,_,_,_,_,_=>none
 | k + 1,a0_0,a0_1,a0_2,a0_3,l0_4,l0_5,a1,a2=>if a0_0 = 6 then (spec_l2Stmt.j0 k a1 a2 (decide (a1 < 1)) a0_0 a0_1 a0_2 a0_3 l0_4 l0_5) else (if (l0_5.length : Int) > 0 then (spec_l2Stmt.j0 k a1 a2 true a0_0 a0_1 a0_2 a0_3 l0_4 l0_5) else (spec_l2Stmt.j0 k a1 a2 (decide (a1 < 1)) a0_0 a0_1 a0_2 a0_3 l0_4 l0_5))
def spec_l2List.l0 : Nat → List (S69) → Int → Int → Int → Option (Bool)
 | 0,_,_,_,_=>none
 | k + 1,x0,x1,x2,x7=>if x7 < (x0.length : Int) then (if 0 ≤ x7 then ((spec_l2Stmt.f k ((rd_T69 x0 x7).f0) ((rd_T69 x0 x7).f1) ((rd_T69 x0 x7).f2) ((rd_T69 x0 x7).f3) ((rd_T69 x0 x7).f4) ((rd_T69 x0 x7).f5) x1 x2).bind fun t189=>(if t189 = true then (spec_l2List.l0 k x0 x1 x2 (wrap64 (x7 + 1))) else (some false))) else (none)) else (some true)
def spec_l2List.f : Nat → List (S69) → Int → Int → Option (Bool)
 | 0,_,_,_=>none
 | k + 1,l0,a1,a2=>spec_l2List.l0 k l0 a1 a2 0
end
abbrev spec_l2Stmt.Says (k : Nat) : Prop:=∀ (a0_0 : Int) (a0_1 : Int) (a0_2 : Int) (a0_3 : Int) (A0_4 : Option Addr) (c0_4 : Nat) (l0_4 : List (S69)) (A0_5 : Option Addr) (c0_5 : Nat) (l0_5 : List (S69)) (a1 : Int) (a2 : Int) (r : Bool) (w : World) (hr0_4 : Kd.C k69 w A0_4 l0_4.length l0_4) (hc0_4 : l0_4.length ≤ c0_4) (hr0_5 : Kd.C k69 w A0_5 l0_5.length l0_5) (hc0_5 : l0_5.length ≤ c0_5) (h : spec_l2Stmt.f k a0_0 a0_1 a0_2 a0_3 l0_4 l0_5 a1 a2 = some r),
  Calls Try.prog 55 #[.agg #[.int .i64 a0_0,.int .i64 a0_1,.int .i64 a0_2,.int .i64 a0_3,.slice A0_4 l0_4.length c0_4,.slice A0_5 l0_5.length c0_5],.int .i64 a1,.int .i64 a2] w fun e w'=>e = .returned (.bool r) ∧ Below w.heap.size w w'
abbrev spec_l2List.Says (k : Nat) : Prop:=∀ (A0 : Option Addr) (c0 : Nat) (l0 : List (S69)) (a1 : Int) (a2 : Int) (r : Bool) (w : World) (hr0 : Kd.C k69 w A0 l0.length l0) (hc0 : l0.length ≤ c0) (h : spec_l2List.f k l0 a1 a2 = some r),
  Calls Try.prog 50 #[.slice A0 l0.length c0,.int .i64 a1,.int .i64 a2] w fun e w'=>e = .returned (.bool r) ∧ Below w.heap.size w w'
set_option maxHeartbeats 8000000 in
set_option maxRecDepth 100000 in
theorem spec_l2Stmt.calls_ (k : Nat) (ih_spec_l2Stmt : ∀ k_,k_ < k → spec_l2Stmt.Says k_) (ih_spec_l2List : ∀ k_,k_ < k → spec_l2List.Says k_) : spec_l2Stmt.Says k:=by
 intro a0_0 a0_1 a0_2 a0_3 A0_4 c0_4 l0_4 A0_5 c0_5 l0_5 a1 a2 r w hr0_4 hc0_4 hr0_5 hc0_5 h
 cases k with
 | zero=>exact absurd h (by simp [spec_l2Stmt.f])
 | succ k =>
 simp only [spec_l2Stmt.f] at h;have hu69:=Try.underlying69;have HR0_4:=O hr0_4;have HC0_4:=O hc0_4;clear hr0_4 hc0_4;have HR0_5:=O hr0_5;have HC0_5:=O hc0_5;clear hr0_5 hc0_5;have HB:=O (Below.refl w.heap.size w);have H : (if a0_0 = 6 then (spec_l2Stmt.j0 k a1 a2 (decide (a1 < 1)) a0_0 a0_1 a0_2 a0_3 l0_4 l0_5) else (if (l0_5.length : Int) > 0 then (spec_l2Stmt.j0 k a1 a2 true a0_0 a0_1 a0_2 a0_3 l0_4 l0_5) else (spec_l2Stmt.j0 k a1 a2 (decide (a1 < 1)) a0_0 a0_1 a0_2 a0_3 l0_4 l0_5))) = some r:=h;clear h;have HC4:=O H;clear H;go_enter Try.func55,Try.ntmps55
 go_upto_region 1 with (first | ((with_reducible refine gate_dst (N:=3) rfl ?_);(try (refine gate_guard (by rfl) ?_;dsimp only));refine box_event ?hg (N:=3) ?hd (cs:=#[.int .i64 a0_0,.int .i64 a0_1,.int .i64 a0_2,.int .i64 a0_3,.slice A0_4 l0_4.length c0_4,.slice A0_5 l0_5.length c0_5]) (t:=69) ?hr ?_;(case hd=>rfl);(case hg=>rfl);(case hr=>first | (go_simp;done) | (go_simp;rfl));intro gb183 hg w5 hbox hb;have n0_:=bxA hb hg hbox (q0_ HB);clear HB;obtain ⟨HB,BK183,GW183,GE183⟩:=n0_;clear hb hbox hg))
 (try simp only [Act.put,List.setIfInBounds_toArray,List.set_cons_zero,List.set_cons_succ])
 go_cut [19] (fun v19 wc=>∃ (kq : Nat) (x19_3 : Bool),v19 = .bool x19_3 ∧ Aside0 (spec_l2Stmt.j0 kq a1 a2 x19_3 a0_0 a0_1 a0_2 a0_3 l0_4 l0_5 = some r) ∧ Aside0 (kq ≤ k) ∧ Aside0 (wc.heap[gb183]? = some (.cells #[.int .i64 a0_0,.int .i64 a0_1,.int .i64 a0_2,.int .i64 a0_3,(.slice A0_4 l0_4.length c0_4),(.slice A0_5 l0_5.length c0_5)] 69 (0,0))) ∧ Aside0 (Below w.heap.size w wc))
 case first =>
  have H:=HC4.out;clear HC4
  by_cases c6 : a0_0 = 6
  ·rw [if_pos c6] at H;obtain ⟨c6b0,c6b1⟩:=eqT c6;clear c6
   (first | rw [c6b0] | (simp only [i64_w,i32_w];rw [c6b0]) | skip)
   have H':=O H;clear H;obtain ⟨hcz7_0,hcz7_1,hcz7_2,hcz7_3,hcz7_4,hcz7_5,hfz7_0,hfz7_1,hfz7_2,hfz7_3,hfz7_4,hfz7_5⟩:=bz6_ BK183
   go_wp2
   go_meet
   case rel=>exact ⟨_,(decide (a1 < 1)),(y56_),H',⟨by first | omega | exact Nat.le_refl _⟩,⟨y57_ BK183⟩,⟨y58_ HB GE183⟩⟩
  ·rw [if_neg c6] at H;obtain ⟨c6b0,c6b1⟩:=eqF c6
   (first | rw [c6b0] | (simp only [i64_w,i32_w];rw [c6b0]) | skip)
   by_cases c8 : (l0_5.length : Int) > 0
   ·rw [if_pos c8] at H;have c8b0 : decide (0 < (l0_5.length : Int)) = true:=decide_eq_true c8
    have c8b1 : decide (0 < l0_5.length) = true:=decide_eq_true (by omega)
    clear c8;have H':=O H;clear H;obtain ⟨hcz9_0,hcz9_1,hcz9_2,hcz9_3,hcz9_4,hcz9_5,hfz9_0,hfz9_1,hfz9_2,hfz9_3,hfz9_4,hfz9_5⟩:=bz6_ BK183
    go_wp2
    go_meet
    case rel=>exact ⟨_,(true),(y56_),H',⟨by first | omega | exact Nat.le_refl _⟩,⟨y57_ BK183⟩,⟨y58_ HB GE183⟩⟩
   ·rw [if_neg c8] at H;have c8b0 : decide (0 < (l0_5.length : Int)) = false:=decide_eq_false c8
    have c8b1 : decide (0 < l0_5.length) = false:=decide_eq_false (by omega)
    clear c8;have H':=O H;clear H;obtain ⟨hcz10_0,hcz10_1,hcz10_2,hcz10_3,hcz10_4,hcz10_5,hfz10_0,hfz10_1,hfz10_2,hfz10_3,hfz10_4,hfz10_5⟩:=bz6_ BK183
    go_wp2
    go_meet
    case rel=>exact ⟨_,(decide (a1 < 1)),(y56_),H',⟨by first | omega | exact Nat.le_refl _⟩,⟨y57_ BK183⟩,⟨y58_ HB GE183⟩⟩
 case rest =>
  clear HC4;obtain ⟨kq,x19_3,rfl,HA,HJ3,BK183,HB⟩:=hcut
  cases kq with
  | zero=>exact absurd HA.out (by simp [spec_l2Stmt.j0])
  | succ kj3 =>
   have H:=HA.out;clear HA;simp only [spec_l2Stmt.j0] at H
   by_cases c11 : x19_3 = true
   ·subst c11
    rw [if_pos rfl] at H;obtain rfl:=J H
    go_wp2
    go_ret
    exact ⟨y59_,y58_ HB GE183⟩
   ·replace c11:=Bool.eq_false_iff.mpr c11;subst c11
    rw [if_neg (show ¬ (false = true) by decide)] at H;have HC12:=O H;clear H;obtain ⟨hcz13_0,hcz13_1,hcz13_2,hcz13_3,hcz13_4,hcz13_5,hfz13_0,hfz13_1,hfz13_2,hfz13_3,hfz13_4,hfz13_5⟩:=bz6_ BK183
    go_upto_if 22 with (fail)
    go_cut [22] (fun v22 wc=>∃ (kq : Nat) (x22_11 : Bool),v22 = .bool x22_11 ∧ Aside0 (spec_l2Stmt.j1 kq a1 a2 a0_0 x22_11 a0_0 a0_1 a0_2 a0_3 l0_4 l0_5 = some r) ∧ Aside0 (kq ≤ kj3) ∧ Aside0 (wc.heap[gb183]? = some (.cells #[.int .i64 a0_0,.int .i64 a0_1,.int .i64 a0_2,.int .i64 a0_3,(.slice A0_4 l0_4.length c0_4),(.slice A0_5 l0_5.length c0_5)] 69 (0,0))) ∧ Aside0 (Below w.heap.size w wc))
    case first =>
     have H:=HC12.out;clear HC12
     by_cases c14 : a0_0 = 6
     ·rw [if_pos c14] at H;obtain ⟨c14b0,c14b1⟩:=eqT c14;clear c14
      (first | rw [c14b0] | (simp only [i64_w,i32_w];rw [c14b0]) | skip)
      have H':=O H;clear H
      go_wp2
      go_meet
      case rel=>exact ⟨_,((a0_0 == 6)),(y56_),H',⟨by have:=HJ3.out;first | omega | exact Nat.le_refl _⟩,⟨y57_ BK183⟩,⟨y58_ HB GE183⟩⟩
     ·rw [if_neg c14] at H;obtain ⟨c14b0,c14b1⟩:=eqF c14
      (first | rw [c14b0] | (simp only [i64_w,i32_w];rw [c14b0]) | skip)
      have H':=O H;clear H
      go_wp2
      go_meet
      case rel=>exact ⟨_,((a0_0 == 7)),(y56_),H',⟨by have:=HJ3.out;first | omega | exact Nat.le_refl _⟩,⟨y57_ BK183⟩,⟨y58_ HB GE183⟩⟩
    case rest =>
     clear HC12;(try clear c11);(try clear hcz13_0);(try clear hcz13_1);(try clear hcz13_2);(try clear hcz13_3);(try clear hcz13_4);(try clear hcz13_5);(try clear hfz13_0);(try clear hfz13_1);(try clear hfz13_2);(try clear hfz13_3);(try clear hfz13_4);(try clear hfz13_5);obtain ⟨kq,x22_11,rfl,HA,HJ11,BK183,HB⟩:=hcut
     cases kq with
     | zero=>exact absurd HA.out (by simp [spec_l2Stmt.j1])
     | succ kj11 =>
      have H:=HA.out;clear HA;simp only [spec_l2Stmt.j1] at H
      by_cases c15 : x22_11 = true
      ·subst c15
       rw [if_pos rfl] at H
       by_cases c16 : a0_1 ≥ 0
       ·rw [if_pos c16] at H;have c16b0 : decide (0 ≤ a0_1) = true:=decide_eq_true c16;clear c16
        by_cases c17 : a0_1 < 3
        ·rw [if_pos c17] at H;have c17b0 : decide (a0_1 < 3) = true:=decide_eq_true c17;clear c17
         by_cases c18 : a0_2 = 0
         ·rw [if_pos c18] at H;obtain ⟨c18b0,c18b1⟩:=eqT c18;clear c18
          by_cases c19 : a0_3 = 0
          ·rw [if_pos c19] at H;obtain ⟨c19b0,c19b1⟩:=eqT c19;clear c19;obtain ⟨t184,A20,H⟩:=bnd H
           by_cases c21 : t184 = true
           ·subst c21
            rw [if_pos rfl] at H;obtain ⟨t185,A22,H⟩:=bnd H;obtain rfl:=J H;obtain ⟨hcz23_0,hcz23_1,hcz23_2,hcz23_3,hcz23_4,hcz23_5,hfz23_0,hfz23_1,hfz23_2,hfz23_3,hfz23_4,hfz23_5⟩:=bz6_ BK183
            go_wp2_with (first | (go_at_call 50;(with_reducible refine (ih_spec_l2List kj11 (by have:=HJ3.out;have:=HJ11.out;omega) _ _ l0_4 (wrap64 (a1 - 1)) a2 true _ ?side1 ?side2 A20.out).mono ?_);(case side1=>exact y60_ HR0_4 HB);(case side2=>exact HC0_4.out);rintro e w24 ⟨rfl,hb⟩;have n0_:=ap2 (blk_below (g:=gb183) (o:=.cells #[.int .i64 a0_0,.int .i64 a0_1,.int .i64 a0_2,.int .i64 a0_3,.slice A0_4 l0_4.length c0_4,.slice A0_5 l0_5.length c0_5] 69 (0,0)) (q6_ BK183) hb) (below_step (q10_ HB GE183) hb);clear BK183 HB;obtain ⟨BK183,HB⟩:=n0_;(try clear hb);obtain ⟨hcz25_0,hcz25_1,hcz25_2,hcz25_3,hcz25_4,hcz25_5,hfz25_0,hfz25_1,hfz25_2,hfz25_3,hfz25_4,hfz25_5⟩:=bz6_ BK183) | (go_at_call 50;(with_reducible refine (ih_spec_l2List kj11 (by have:=HJ3.out;have:=HJ11.out;omega) _ _ l0_5 (wrap64 (a1 - 1)) a2 t185 _ ?side1 ?side2 A22.out).mono ?_);(case side1=>exact y60_ HR0_5 HB);(case side2=>exact HC0_5.out);rintro e w26 ⟨rfl,hb⟩;have n0_:=ap2 (blk_below (g:=gb183) (o:=.cells #[.int .i64 a0_0,.int .i64 a0_1,.int .i64 a0_2,.int .i64 a0_3,.slice A0_4 l0_4.length c0_4,.slice A0_5 l0_5.length c0_5] 69 (0,0)) (q6_ BK183) hb) (below_step (q10_ HB GE183) hb);clear BK183 HB;obtain ⟨BK183,HB⟩:=n0_;(try clear hb)))
            go_ret
            exact ⟨y59_,y58_ HB GE183⟩
           ·replace c21:=Bool.eq_false_iff.mpr c21;subst c21
            rw [if_neg (show ¬ (false = true) by decide)] at H;obtain rfl:=J H;obtain ⟨hcz27_0,hcz27_1,hcz27_2,hcz27_3,hcz27_4,hcz27_5,hfz27_0,hfz27_1,hfz27_2,hfz27_3,hfz27_4,hfz27_5⟩:=bz6_ BK183
            go_wp2_with (first | (go_at_call 50;(with_reducible refine (ih_spec_l2List kj11 (by have:=HJ3.out;have:=HJ11.out;omega) _ _ l0_4 (wrap64 (a1 - 1)) a2 false _ ?side1 ?side2 A20.out).mono ?_);(case side1=>exact y60_ HR0_4 HB);(case side2=>exact HC0_4.out);rintro e w28 ⟨rfl,hb⟩;have n0_:=ap2 (blk_below (g:=gb183) (o:=.cells #[.int .i64 a0_0,.int .i64 a0_1,.int .i64 a0_2,.int .i64 a0_3,.slice A0_4 l0_4.length c0_4,.slice A0_5 l0_5.length c0_5] 69 (0,0)) (q6_ BK183) hb) (below_step (q10_ HB GE183) hb);clear BK183 HB;obtain ⟨BK183,HB⟩:=n0_;(try clear hb)))
            go_ret
            exact ⟨y59_,y58_ HB GE183⟩
          ·rw [if_neg c19] at H;obtain ⟨c19b0,c19b1⟩:=eqF c19;obtain rfl:=J H;obtain ⟨hcz29_0,hcz29_1,hcz29_2,hcz29_3,hcz29_4,hcz29_5,hfz29_0,hfz29_1,hfz29_2,hfz29_3,hfz29_4,hfz29_5⟩:=bz6_ BK183
           go_wp2
           go_ret
           exact ⟨y59_,y58_ HB GE183⟩
         ·rw [if_neg c18] at H;obtain ⟨c18b0,c18b1⟩:=eqF c18;obtain rfl:=J H;obtain ⟨hcz30_0,hcz30_1,hcz30_2,hcz30_3,hcz30_4,hcz30_5,hfz30_0,hfz30_1,hfz30_2,hfz30_3,hfz30_4,hfz30_5⟩:=bz6_ BK183
          go_wp2
          go_ret
          exact ⟨y59_,y58_ HB GE183⟩
        ·rw [if_neg c17] at H;have c17b0 : decide (a0_1 < 3) = false:=decide_eq_false c17;clear c17;obtain rfl:=J H;obtain ⟨hcz31_0,hcz31_1,hcz31_2,hcz31_3,hcz31_4,hcz31_5,hfz31_0,hfz31_1,hfz31_2,hfz31_3,hfz31_4,hfz31_5⟩:=bz6_ BK183
         go_wp2
         go_ret
         exact ⟨y59_,y58_ HB GE183⟩
       ·rw [if_neg c16] at H;have c16b0 : decide (0 ≤ a0_1) = false:=decide_eq_false c16;clear c16;obtain rfl:=J H;obtain ⟨hcz32_0,hcz32_1,hcz32_2,hcz32_3,hcz32_4,hcz32_5,hfz32_0,hfz32_1,hfz32_2,hfz32_3,hfz32_4,hfz32_5⟩:=bz6_ BK183
        go_wp2
        go_ret
        exact ⟨y59_,y58_ HB GE183⟩
      ·replace c15:=Bool.eq_false_iff.mpr c15;subst c15
       rw [if_neg (show ¬ (false = true) by decide)] at H
       by_cases c33 : a0_0 = 8
       ·rw [if_pos c33] at H;obtain ⟨c33b0,c33b1⟩:=eqT c33;clear c33
        by_cases c34 : a2 < 0
        ·rw [if_pos c34] at H;have c34b0 : decide (a2 < 0) = true:=decide_eq_true c34;clear c34
         by_cases c35 : a0_1 ≥ 0
         ·rw [if_pos c35] at H;have c35b0 : decide (0 ≤ a0_1) = true:=decide_eq_true c35;clear c35
          by_cases c36 : a0_1 < 2
          ·rw [if_pos c36] at H;have c36b0 : decide (a0_1 < 2) = true:=decide_eq_true c36;clear c36
           by_cases c37 : a0_2 = 0
           ·rw [if_pos c37] at H;obtain ⟨c37b0,c37b1⟩:=eqT c37;clear c37
            by_cases c38 : a0_3 = 0
            ·rw [if_pos c38] at H;obtain ⟨c38b0,c38b1⟩:=eqT c38;clear c38;obtain ⟨t186,A39,H⟩:=bnd H;obtain rfl:=J H;obtain ⟨hcz40_0,hcz40_1,hcz40_2,hcz40_3,hcz40_4,hcz40_5,hfz40_0,hfz40_1,hfz40_2,hfz40_3,hfz40_4,hfz40_5⟩:=bz6_ BK183
             go_wp2_with (first | (go_at_call 50;(with_reducible refine (ih_spec_l2List kj11 (by have:=HJ3.out;have:=HJ11.out;omega) _ _ l0_4 (wrap64 (a1 - 1)) a0_1 t186 _ ?side1 ?side2 A39.out).mono ?_);(case side1=>exact y60_ HR0_4 HB);(case side2=>exact HC0_4.out);rintro e w41 ⟨rfl,hb⟩;have n0_:=ap2 (blk_below (g:=gb183) (o:=.cells #[.int .i64 a0_0,.int .i64 a0_1,.int .i64 a0_2,.int .i64 a0_3,.slice A0_4 l0_4.length c0_4,.slice A0_5 l0_5.length c0_5] 69 (0,0)) (q6_ BK183) hb) (below_step (q10_ HB GE183) hb);clear BK183 HB;obtain ⟨BK183,HB⟩:=n0_;(try clear hb)))
             go_ret
             exact ⟨y59_,y58_ HB GE183⟩
            ·rw [if_neg c38] at H;obtain ⟨c38b0,c38b1⟩:=eqF c38;obtain rfl:=J H;obtain ⟨hcz42_0,hcz42_1,hcz42_2,hcz42_3,hcz42_4,hcz42_5,hfz42_0,hfz42_1,hfz42_2,hfz42_3,hfz42_4,hfz42_5⟩:=bz6_ BK183
             go_wp2
             go_ret
             exact ⟨y59_,y58_ HB GE183⟩
           ·rw [if_neg c37] at H;obtain ⟨c37b0,c37b1⟩:=eqF c37;obtain rfl:=J H;obtain ⟨hcz43_0,hcz43_1,hcz43_2,hcz43_3,hcz43_4,hcz43_5,hfz43_0,hfz43_1,hfz43_2,hfz43_3,hfz43_4,hfz43_5⟩:=bz6_ BK183
            go_wp2
            go_ret
            exact ⟨y59_,y58_ HB GE183⟩
          ·rw [if_neg c36] at H;have c36b0 : decide (a0_1 < 2) = false:=decide_eq_false c36;clear c36;obtain rfl:=J H;obtain ⟨hcz44_0,hcz44_1,hcz44_2,hcz44_3,hcz44_4,hcz44_5,hfz44_0,hfz44_1,hfz44_2,hfz44_3,hfz44_4,hfz44_5⟩:=bz6_ BK183
           go_wp2
           go_ret
           exact ⟨y59_,y58_ HB GE183⟩
         ·rw [if_neg c35] at H;have c35b0 : decide (0 ≤ a0_1) = false:=decide_eq_false c35;clear c35;obtain rfl:=J H;obtain ⟨hcz45_0,hcz45_1,hcz45_2,hcz45_3,hcz45_4,hcz45_5,hfz45_0,hfz45_1,hfz45_2,hfz45_3,hfz45_4,hfz45_5⟩:=bz6_ BK183
          go_wp2
          go_ret
          exact ⟨y59_,y58_ HB GE183⟩
        ·rw [if_neg c34] at H;have c34b0 : decide (a2 < 0) = false:=decide_eq_false c34;clear c34;obtain rfl:=J H
         go_wp2
         go_ret
         exact ⟨y59_,y58_ HB GE183⟩
       ·rw [if_neg c33] at H;obtain ⟨c33b0,c33b1⟩:=eqF c33
        by_cases c46 : (l0_4.length : Int) = 0
        ·rw [if_pos c46] at H;obtain ⟨c46b0,c46b1⟩:=eqT c46;clear c46;obtain ⟨t187,A47,H⟩:=bnd H;obtain rfl:=J H;obtain ⟨hcz48_0,hcz48_1,hcz48_2,hcz48_3,hcz48_4,hcz48_5,hfz48_0,hfz48_1,hfz48_2,hfz48_3,hfz48_4,hfz48_5⟩:=bz6_ BK183
         go_wp2_with (first | (go_at_call 58;(with_reducible refine (spec_l2Leaf.calls kj11 a0_0 a0_1 a0_2 a0_3 _ _ l0_4 _ _ l0_5 a2 t187 _ ?side1 ?side2 ?side3 ?side4 A47.out).mono ?_);(case side1=>exact y60_ HR0_4 HB);(case side2=>exact HC0_4.out);(case side3=>exact y60_ HR0_5 HB);(case side4=>exact HC0_5.out);rintro e w49 ⟨rfl,hb⟩;have n0_:=ap2 (blk_below (g:=gb183) (o:=.cells #[.int .i64 a0_0,.int .i64 a0_1,.int .i64 a0_2,.int .i64 a0_3,.slice A0_4 l0_4.length c0_4,.slice A0_5 l0_5.length c0_5] 69 (0,0)) (q6_ BK183) hb) (below_step (q10_ HB GE183) hb);clear BK183 HB;obtain ⟨BK183,HB⟩:=n0_;(try clear hb)))
         go_ret
         exact ⟨y59_,y58_ HB GE183⟩
        ·rw [if_neg c46] at H;obtain ⟨c46b0,c46b1⟩:=eqF c46
         have c46b2 : ¬ (l0_4 = []):=fun h_=>c46 (by rw [h_];rfl)
         obtain rfl:=J H;obtain ⟨hcz50_0,hcz50_1,hcz50_2,hcz50_3,hcz50_4,hcz50_5,hfz50_0,hfz50_1,hfz50_2,hfz50_3,hfz50_4,hfz50_5⟩:=bz6_ BK183
         go_wp2
         go_ret
         exact ⟨y59_,y58_ HB GE183⟩
set_option maxHeartbeats 8000000 in
set_option maxRecDepth 100000 in
theorem spec_l2List.calls_ (k : Nat) (ih_spec_l2Stmt : ∀ k_,k_ < k → spec_l2Stmt.Says k_) (ih_spec_l2List : ∀ k_,k_ < k → spec_l2List.Says k_) : spec_l2List.Says k:=by
 intro A0 c0 l0 a1 a2 r w hr0 hc0 h
 cases k with
 | zero=>exact absurd h (by simp [spec_l2List.f])
 | succ k =>
 simp only [spec_l2List.f] at h;have hu69:=Try.underlying69;have HR0:=O hr0;have HC0:=O hc0;clear hr0 hc0;have HB:=O (Below.refl w.heap.size w);have H : (spec_l2List.l0 k l0 a1 a2 0) = some r:=h;clear h;have H':=O H;clear H;go_enter Try.func50,Try.ntmps50
 go_wp2
 go_loopg [7] k (fun kq v7 w'=>∃ (x7_1 : Int),v7 = .int .i64 x7_1 ∧ Aside0 (spec_l2List.l0 kq l0 a1 a2 x7_1 = some r) ∧ Aside0 (kq ≤ k) ∧ Aside0 (Below w.heap.size w w'))
 case atStart=>exact ⟨(0),(y56_),H',⟨Nat.le_refl _⟩,⟨y61_ HB⟩⟩
 case round =>
  clear H';obtain ⟨x7_1,rfl,HA,HK1,HB⟩:=hrel
  cases gk with
  | zero=>exact absurd HA.out (by simp [spec_l2List.l0])
  | succ k1 =>
   have H:=HA.out;clear HA;simp only [spec_l2List.l0] at H
   by_cases c4 : x7_1 < (l0.length : Int)
   ·rw [if_pos c4] at H;have c4b0 : decide (x7_1 < (l0.length : Int)) = true:=decide_eq_true c4;clear c4
    by_cases c5 : 0 ≤ x7_1
    ·rw [if_pos c5] at H;have c5b0 : decide (0 ≤ x7_1) = true:=decide_eq_true c5;clear c5;obtain ⟨t189,A6,H⟩:=bnd H
     by_cases c7 : t189 = true
     ·subst c7
      rw [if_pos rfl] at H;have H':=O H;clear H
      have p188 : 0 ≤ (x7_1 : Int):=of_decide_eq_true (by first | (with_reducible assumption) | assumption)
      have q188 : x7_1 < (l0.length : Int):=of_decide_eq_true (by first | (with_reducible assumption) | assumption)
      obtain ⟨ad188,A188_4,c188_4,A188_5,c188_5,e188,hx188_0,hx188_1,hx188_2,hx188_3,hx188_4,hx188_5,hl188_4,hi188_4,hl188_5,hi188_5⟩:=at_T69 HR0.out x7_1 p188 q188
      cases e188
      replace hx188_0:=clB HB hx188_0;replace hx188_1:=clB HB hx188_1;replace hx188_2:=clB HB hx188_2;replace hx188_3:=clB HB hx188_3;replace hx188_4:=clB HB hx188_4;replace hx188_5:=clB HB hx188_5;have HR188_4:=O hi188_4;have HC188_4:=O hl188_4;clear hi188_4 hl188_4;have HR188_5:=O hi188_5;have HC188_5:=O hl188_5;clear hi188_5 hl188_5;replace p188:=eq_true p188;replace q188:=eq_true q188
      go_wp2_with (first | ((with_reducible refine gate_callee (f:=55) rfl ?_);refine goesM_ (some 20) Try.func55 #[.agg #[.int .i64 ((rd_T69 l0 x7_1).f0),.int .i64 ((rd_T69 l0 x7_1).f1),.int .i64 ((rd_T69 l0 x7_1).f2),.int .i64 ((rd_T69 l0 x7_1).f3),.slice A188_4 ((rd_T69 l0 x7_1).f4).length c188_4,.slice A188_5 ((rd_T69 l0 x7_1).f5).length c188_5],.int .i64 a1,.int .i64 a2] ?_;(with_reducible refine (ih_spec_l2Stmt k1 (by have:=HK1.out;omega) ((rd_T69 l0 x7_1).f0) ((rd_T69 l0 x7_1).f1) ((rd_T69 l0 x7_1).f2) ((rd_T69 l0 x7_1).f3) _ _ ((rd_T69 l0 x7_1).f4) _ _ ((rd_T69 l0 x7_1).f5) a1 a2 true _ ?side1 ?side2 ?side3 ?side4 A6.out).mono ?_);(case side1=>exact y60_ HR188_4 HB);(case side2=>exact HC188_4.out);(case side3=>exact y60_ HR188_5 HB);(case side4=>exact HC188_5.out);rintro e w8 ⟨rfl,hb⟩;refine ⟨_,rfl,?_⟩;replace HB:=O (below_step (q0_ HB) hb);(try clear hb)))
      go_roundg k1
      case measure=>have:=HK1.out;omega
      case rel=>exact ⟨(wrap64 (x7_1 + 1)),(y56_),H',⟨by have:=HK1.out;omega⟩,⟨y61_ HB⟩⟩
     ·replace c7:=Bool.eq_false_iff.mpr c7;subst c7
      rw [if_neg (show ¬ (false = true) by decide)] at H;obtain rfl:=J H
      have p188 : 0 ≤ (x7_1 : Int):=of_decide_eq_true (by first | (with_reducible assumption) | assumption)
      have q188 : x7_1 < (l0.length : Int):=of_decide_eq_true (by first | (with_reducible assumption) | assumption)
      obtain ⟨ad188,A188_4,c188_4,A188_5,c188_5,e188,hx188_0,hx188_1,hx188_2,hx188_3,hx188_4,hx188_5,hl188_4,hi188_4,hl188_5,hi188_5⟩:=at_T69 HR0.out x7_1 p188 q188
      cases e188
      replace hx188_0:=clB HB hx188_0;replace hx188_1:=clB HB hx188_1;replace hx188_2:=clB HB hx188_2;replace hx188_3:=clB HB hx188_3;replace hx188_4:=clB HB hx188_4;replace hx188_5:=clB HB hx188_5;have HR188_4:=O hi188_4;have HC188_4:=O hl188_4;clear hi188_4 hl188_4;have HR188_5:=O hi188_5;have HC188_5:=O hl188_5;clear hi188_5 hl188_5;replace p188:=eq_true p188;replace q188:=eq_true q188
      go_wp2_with (first | ((with_reducible refine gate_callee (f:=55) rfl ?_);refine goesM_ (some 20) Try.func55 #[.agg #[.int .i64 ((rd_T69 l0 x7_1).f0),.int .i64 ((rd_T69 l0 x7_1).f1),.int .i64 ((rd_T69 l0 x7_1).f2),.int .i64 ((rd_T69 l0 x7_1).f3),.slice A188_4 ((rd_T69 l0 x7_1).f4).length c188_4,.slice A188_5 ((rd_T69 l0 x7_1).f5).length c188_5],.int .i64 a1,.int .i64 a2] ?_;(with_reducible refine (ih_spec_l2Stmt k1 (by have:=HK1.out;omega) ((rd_T69 l0 x7_1).f0) ((rd_T69 l0 x7_1).f1) ((rd_T69 l0 x7_1).f2) ((rd_T69 l0 x7_1).f3) _ _ ((rd_T69 l0 x7_1).f4) _ _ ((rd_T69 l0 x7_1).f5) a1 a2 false _ ?side1 ?side2 ?side3 ?side4 A6.out).mono ?_);(case side1=>exact y60_ HR188_4 HB);(case side2=>exact HC188_4.out);(case side3=>exact y60_ HR188_5 HB);(case side4=>exact HC188_5.out);rintro e w9 ⟨rfl,hb⟩;refine ⟨_,rfl,?_⟩;replace HB:=O (below_step (q0_ HB) hb);(try clear hb)))
      go_ret
      exact ⟨y59_,y61_ HB⟩
    ·rw [if_neg c5] at H
     exact absurd H (by simp)
   ·rw [if_neg c4] at H;have c4b0 : decide (x7_1 < (l0.length : Int)) = false:=decide_eq_false c4;clear c4;obtain rfl:=J H
    go_wp2
    go_ret
    exact ⟨y59_,y61_ HB⟩
theorem spec_l2Stmt.grp.calls_all (k : Nat) : spec_l2Stmt.Says k ∧ spec_l2List.Says k:=by
 induction k using Nat.strongRecOn with
 | _ k ih=>exact ⟨spec_l2Stmt.calls_ k (fun j h=>(ih j h).1) (fun j h=>(ih j h).2),spec_l2List.calls_ k (fun j h=>(ih j h).1) (fun j h=>(ih j h).2)⟩
theorem spec_l2List.calls (k : Nat) : spec_l2List.Says k:=(spec_l2Stmt.grp.calls_all k).2
end Go.Proofs.Ytfbocgagfodgnaa.P
