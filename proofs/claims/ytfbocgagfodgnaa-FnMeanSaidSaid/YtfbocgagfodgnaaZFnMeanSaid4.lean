/- Parts of the proof of FnMeanSaid: plain Lean functions of Go functions, and that the calls come to what they say; no condition beyond those that each theorem names. -/
import Derived.Test.YtfbocgagfodgnaaProg
import Derived.Below
import Derived.Deep.Draws
import Derived.Deep.AppendLies
import Derived.Maps.AppendAt
import Derived.OwnWalk
import Derived.Laws.BytesArg
import Derived.Laws.MakeOwn
import Derived.Laws.OwnMore
import Derived.Deep.OwnRows
import Derived.Tactics
import Derived.Lib.ConvBytes
import Derived.Laws.Slices
import Derived.WalkKit
import Derived.KernelRfl
import Derived.RowKit3
import Derived.Deep.LoopGhost
import Derived.Deep.QuietTactic
import Derived.BigQuiet
import Derived.WideLaws
import Derived.Deep.DeepCutAuto
import Derived.Deep.CutBlock
import Derived.Deep.RegionHeld3
import Derived.Laws.Rows
import Derived.Lib.AppendStr
import Derived.ArgAppend
import Derived.Laws.IdiomCopy
import Derived.OrdersHeld
import Derived.Laws.BitsLemmas
import Derived.RowKit
import Derived.Test.YtfbocgagfodgnaaZFnMeanSaid0
import Derived.Test.YtfbocgagfodgnaaZFnMeanSaid1
import Derived.Test.YtfbocgagfodgnaaZFnMeanSaid2
import Derived.Test.YtfbocgagfodgnaaZFnMeanSaid3
namespace Go.Proofs.Ytfbocgagfodgnaa.P
open Go.RowKit Go.Proofs.YtfbocgagfodgnaaW.PrintWords Go.Proofs.YtfbocgagfodgnaaW.PrintLast Go.Proofs.YtfbocgagfodgnaaW.PrintMore
attribute [local go_sem] max2_int min2_int max_two min_two max_three min_three max_four min_four
set_option linter.unusedVariables false
set_option linter.unusedSimpArgs false
def errW : Option Int → Value
  | none=>.nilIface
  | some c=>.iface 0 (.int .i64 c)
theorem errW_none : errW none = .nilIface:=rfl
theorem errW_some (c : Int) : errW (some c) = .iface 0 (.int .i64 c):=rfl
section
variable {α : Type} {d : Kd α} {e : Nat} {w : World} {base : Nat} {ok : Nat → Prop} {v : Value} {xs : List α}
end
theorem info3 : (Try.prog.info? 3).map (fun i=>(i.zero,i.size,i.bytes)) = some (some (.int .i64 0),1,8):=by kernel_rfl
theorem info5 : (Try.prog.info? 5).map (fun i=>(i.zero,i.size,i.bytes)) = some (some (.int .u8 0),1,1):=by kernel_rfl
theorem info26 : (Try.prog.info? 26).map (fun i=>(i.zero,i.size,i.bytes)) = some (some (.slice none 0 0),1,24):=by kernel_rfl
theorem info38 : (Try.prog.info? 38).map (fun i=>(i.zero,i.size,i.bytes)) = some (some (.agg #[(.int .i64 0),(.int .i64 0)]),2,16):=by kernel_rfl
theorem info49 : (Try.prog.info? 49).map (fun i=>(i.zero,i.size,i.bytes)) = some (some (.slice none 0 0),1,24):=by kernel_rfl
theorem info51 : (Try.prog.info? 51).map (fun i=>(i.zero,i.size,i.bytes)) = some (some (.agg #[(.slice none 0 0),(.slice none 0 0),(.int .i64 0),(.int .i64 0),(.int .i64 0)]),5,72):=by kernel_rfl
theorem info69 : (Try.prog.info? 69).map (fun i=>(i.zero,i.size,i.bytes)) = some (some (.agg #[(.int .i64 0),(.int .i64 0),(.int .i64 0),(.int .i64 0),(.slice none 0 0),(.slice none 0 0)]),6,80):=by kernel_rfl
structure S69 where
  f0 : Int
  f1 : Int
  f2 : Int
  f3 : Int
  f4 : (List S69)
  f5 : (List S69)
def z69 : S69:=⟨(0 : Int),(0 : Int),(0 : Int),(0 : Int),([] : List S69),([] : List S69)⟩
def F69 (d : Kd S69) : Kd S69:=Kd.iso (Kd.pair (Kd.int .i64) (Kd.pair (Kd.int .i64) (Kd.pair (Kd.int .i64) (Kd.pair (Kd.int .i64) (Kd.pair (Kd.slice 69 d) (Kd.slice 69 d)))))) (fun x : S69=>(x.f0,x.f1,x.f2,x.f3,x.f4,x.f5))
theorem mono69 : Kd.Mono F69:=Kd.mono_iso _ (Kd.mono_pair (Kd.mono_const _) (Kd.mono_pair (Kd.mono_const _) (Kd.mono_pair (Kd.mono_const _) (Kd.mono_pair (Kd.mono_const _) (Kd.mono_pair (Kd.mono_slice 69 Kd.mono_id) (Kd.mono_slice 69 Kd.mono_id))))))
theorem sub69 : Kd.Sub F69 [69]:=Kd.sub_iso _ (Kd.sub_pair (Kd.sub_const _ (by decide)) (Kd.sub_pair (Kd.sub_const _ (by decide)) (Kd.sub_pair (Kd.sub_const _ (by decide)) (Kd.sub_pair (Kd.sub_const _ (by decide)) (Kd.sub_pair (Kd.sub_slice 69 (by decide) Kd.sub_id) (Kd.sub_slice 69 (by decide) Kd.sub_id))))))
theorem sz69 : ∀ n,(Kd.upto F69 6 [69] n).sz = 6:=Kd.upto_sz (fun _=>rfl)
def k69 : Kd S69:=Kd.fix F69 6 [69] sz69 (Kd.upto_E sub69)
theorem k69_heap : Kd.Heap k69:=Kd.heap_fix (fun _ h_=>Kd.heap_iso _ (Kd.heap_pair (Kd.heap_int .i64) (Kd.heap_pair (Kd.heap_int .i64) (Kd.heap_pair (Kd.heap_int .i64) (Kd.heap_pair (Kd.heap_int .i64) (Kd.heap_pair (Kd.heap_slice 69 h_) (Kd.heap_slice 69 h_)))))))
theorem k69_open {w : World} {x : S69} {cs : List Value} (h : k69.K w x cs) : ∃ A4 c4 A5 c5,cs = [.int .i64 x.f0,.int .i64 x.f1,.int .i64 x.f2,.int .i64 x.f3,.slice A4 x.f4.length c4,.slice A5 x.f5.length c5] ∧ x.f4.length ≤ c4 ∧ k69.C w A4 x.f4.length x.f4 ∧ x.f5.length ≤ c5 ∧ k69.C w A5 x.f5.length x.f5:=by
  obtain ⟨n,h⟩:=h
  cases n with
  | zero=>exact h.elim
  | succ n =>
    obtain ⟨_,_,rfl,rfl,⟨_,_,rfl,rfl,⟨_,_,rfl,rfl,⟨_,_,rfl,rfl,⟨_,_,rfl,⟨A4,c4,rfl,l4,g4⟩,⟨A5,c5,rfl,l5,g5⟩⟩⟩⟩⟩⟩:=h
    exact ⟨A4,c4,A5,c5,rfl,l4,Kd.fix_C g4,l5,Kd.fix_C g5⟩
theorem k69_mk (w : World) (x : S69) {A4 : Option Addr} {c4 : Nat} (l4 : x.f4.length ≤ c4) (g4 : k69.C w A4 x.f4.length x.f4) {A5 : Option Addr} {c5 : Nat} (l5 : x.f5.length ≤ c5) (g5 : k69.C w A5 x.f5.length x.f5) : k69.K w x [.int .i64 x.f0,.int .i64 x.f1,.int .i64 x.f2,.int .i64 x.f3,.slice A4 x.f4.length c4,.slice A5 x.f5.length c5]:=by
  obtain ⟨n4,q4⟩:=Kd.fix_C_back mono69 g4
  obtain ⟨n5,q5⟩:=Kd.fix_C_back mono69 g5
  have r4:=Kd.upto_C_le mono69 sz69 (show n4 ≤ (max n4 n5) by omega) q4
  have r5:=Kd.upto_C_le mono69 sz69 (show n5 ≤ (max n4 n5) by omega) q5
  exact ⟨(max n4 n5) + 1,⟨[.int .i64 x.f0],[.int .i64 x.f1,.int .i64 x.f2,.int .i64 x.f3,.slice A4 x.f4.length c4,.slice A5 x.f5.length c5],rfl,rfl,⟨[.int .i64 x.f1],[.int .i64 x.f2,.int .i64 x.f3,.slice A4 x.f4.length c4,.slice A5 x.f5.length c5],rfl,rfl,⟨[.int .i64 x.f2],[.int .i64 x.f3,.slice A4 x.f4.length c4,.slice A5 x.f5.length c5],rfl,rfl,⟨[.int .i64 x.f3],[.slice A4 x.f4.length c4,.slice A5 x.f5.length c5],rfl,rfl,⟨[.slice A4 x.f4.length c4],[.slice A5 x.f5.length c5],rfl,⟨A4,c4,rfl,l4,r4⟩,⟨A5,c5,rfl,l5,r5⟩⟩⟩⟩⟩⟩⟩
theorem k69_mkM (w : World) (base : Nat) (ok : Nat → Prop) (x : S69) {v4 : Value} (g4 : k69.R 69 w base ok v4 x.f4) {v5 : Value} (g5 : k69.R 69 w base ok v5 x.f5) : k69.M w base ok x [.int .i64 x.f0,.int .i64 x.f1,.int .i64 x.f2,.int .i64 x.f3,v4,v5]:=by
  obtain ⟨n4,q4⟩:=Kd.fix_R_back mono69 g4
  obtain ⟨n5,q5⟩:=Kd.fix_R_back mono69 g5
  have r4:=Kd.upto_R_le mono69 sz69 (show n4 ≤ (max n4 n5) by omega) q4
  have r5:=Kd.upto_R_le mono69 sz69 (show n5 ≤ (max n4 n5) by omega) q5
  exact ⟨(max n4 n5) + 1,⟨[.int .i64 x.f0],[.int .i64 x.f1,.int .i64 x.f2,.int .i64 x.f3,v4,v5],rfl,rfl,⟨[.int .i64 x.f1],[.int .i64 x.f2,.int .i64 x.f3,v4,v5],rfl,rfl,⟨[.int .i64 x.f2],[.int .i64 x.f3,v4,v5],rfl,rfl,⟨[.int .i64 x.f3],[v4,v5],rfl,rfl,⟨[v4],[v5],rfl,⟨v4,rfl,r4⟩,⟨v5,rfl,r5⟩⟩⟩⟩⟩⟩⟩
theorem k69_openF {W : World} {ok : Nat → Prop} {x : S69} {cs : List Value} (h : Kd.FK k69 W ok x cs) : ∃ A4 c4 A5 c5,cs = [.int .i64 x.f0,.int .i64 x.f1,.int .i64 x.f2,.int .i64 x.f3,.slice A4 x.f4.length c4,.slice A5 x.f5.length c5] ∧ x.f4.length ≤ c4 ∧ Kd.F k69 W ok A4 x.f4.length x.f4 ∧ x.f5.length ≤ c5 ∧ Kd.F k69 W ok A5 x.f5.length x.f5:=by
  obtain ⟨A4,c4,A5,c5,rfl,l4,_,l5,_⟩:=k69_open (Kd.FK_now h)
  exact ⟨A4,c4,A5,c5,rfl,l4,(fun W' hW=>by obtain ⟨A4_,c4_,A5_,c5_,he,l4_,g4_,l5_,g5_⟩:=k69_open (h W' hW);injection (Option.some.inj (show some (Value.slice A4 x.f4.length c4) = some (Value.slice A4_ x.f4.length c4_) from congrArg (fun l=>l[4]?) he)) with ha_ _ _;rw [ha_];exact g4_),l5,(fun W' hW=>by obtain ⟨A4_,c4_,A5_,c5_,he,l4_,g4_,l5_,g5_⟩:=k69_open (h W' hW);injection (Option.some.inj (show some (Value.slice A5 x.f5.length c5) = some (Value.slice A5_ x.f5.length c5_) from congrArg (fun l=>l[5]?) he)) with ha_ _ _;rw [ha_];exact g5_)⟩
theorem k69_mkF (W : World) (ok : Nat → Prop) (x : S69) {A4 : Option Addr} {c4 : Nat} (l4 : x.f4.length ≤ c4) (g4 : Kd.F k69 W ok A4 x.f4.length x.f4) {A5 : Option Addr} {c5 : Nat} (l5 : x.f5.length ≤ c5) (g5 : Kd.F k69 W ok A5 x.f5.length x.f5) : Kd.FK k69 W ok x [.int .i64 x.f0,.int .i64 x.f1,.int .i64 x.f2,.int .i64 x.f3,.slice A4 x.f4.length c4,.slice A5 x.f5.length c5]:=fun W2 hW=>k69_mk W2 x l4 (g4 W2 hW) l5 (g5 W2 hW)
def rd_T69 (xs : List S69) (i : Int) : S69:=xs.getD i.toNat z69
theorem at_T69 {w : World} {A : Option Addr} {n : Nat} {xs : List S69} (h : Kd.C k69 w A n xs) (i : Int) (h0 : 0 ≤ i) (h1 : i < n) : ∃ ad A4 c4 A5 c5,A = some ad ∧ w.cell? (ad.add (i.toNat * 6)) = some (.int .i64 (rd_T69 xs i).f0) ∧ w.cell? ⟨(ad.add (i.toNat * 6)).block,(ad.add (i.toNat * 6)).off + 1,none⟩ = some (.int .i64 (rd_T69 xs i).f1) ∧ w.cell? ⟨(ad.add (i.toNat * 6)).block,(ad.add (i.toNat * 6)).off + 2,none⟩ = some (.int .i64 (rd_T69 xs i).f2) ∧ w.cell? ⟨(ad.add (i.toNat * 6)).block,(ad.add (i.toNat * 6)).off + 3,none⟩ = some (.int .i64 (rd_T69 xs i).f3) ∧ w.cell? ⟨(ad.add (i.toNat * 6)).block,(ad.add (i.toNat * 6)).off + 4,none⟩ = some (.slice A4 (rd_T69 xs i).f4.length c4) ∧ w.cell? ⟨(ad.add (i.toNat * 6)).block,(ad.add (i.toNat * 6)).off + 5,none⟩ = some (.slice A5 (rd_T69 xs i).f5.length c5) ∧ (rd_T69 xs i).f4.length ≤ c4 ∧ k69.C w A4 (rd_T69 xs i).f4.length (rd_T69 xs i).f4 ∧ (rd_T69 xs i).f5.length ≤ c5 ∧ k69.C w A5 (rd_T69 xs i).f5.length (rd_T69 xs i).f5:=by
  obtain ⟨ad,c,e,_,hK,hc0⟩:=Kd.C_get h z69 i h0 h1
  have hc : ∀ j u,c[j]? = some u → w.cell? (ad.add (i.toNat * 6 + j)) = some u:=hc0
  obtain ⟨A4,c4,A5,c5,rfl,l4,g4,l5,g5⟩:=k69_open hK
  exact ⟨ad,A4,c4,A5,c5,e,hc 0 _ rfl,by rw [← add_field _ _ 1 (by omega)];exact hc 1 _ rfl,by rw [← add_field _ _ 2 (by omega)];exact hc 2 _ rfl,by rw [← add_field _ _ 3 (by omega)];exact hc 3 _ rfl,by rw [← add_field _ _ 4 (by omega)];exact hc 4 _ rfl,by rw [← add_field _ _ 5 (by omega)];exact hc 5 _ rfl,l4,g4,l5,g5⟩
def rd_L3 (xs : List (List S69)) (i : Int) : (List S69):=xs.getD i.toNat ([] : List S69)
theorem at_L3 {w : World} {A : Option Addr} {n : Nat} {xs : List (List S69)} (h : Kd.C (Kd.slice 69 k69) w A n xs) (i : Int) (h0 : 0 ≤ i) (h1 : i < n) : ∃ ad A0 c0,A = some ad ∧ w.cell? (ad.add i.toNat) = some (.slice A0 (rd_L3 xs i).length c0) ∧ (rd_L3 xs i).length ≤ c0 ∧ k69.C w A0 (rd_L3 xs i).length (rd_L3 xs i):=by
  obtain ⟨ad,c,e,_,hK,hc0⟩:=Kd.C_get h ([] : List S69) i h0 h1
  have hc : ∀ j u,c[j]? = some u → w.cell? (ad.add (i.toNat * 1 + j)) = some u:=hc0
  obtain ⟨A0,c0,rfl,l0,g0⟩:=hK
  exact ⟨ad,A0,c0,e,by have hq:=hc 0 _ rfl;rwa [Nat.mul_one,Nat.add_zero] at hq,l0,g0⟩
def rd_L4 (xs : List (List Int)) (i : Int) : (List Int):=xs.getD i.toNat ([] : List Int)
structure S51 where
  f0 : (List Int)
  f1 : (List S69)
  f2 : Int
  f3 : Int
  f4 : Int
def z51 : S51:=⟨([] : List Int),([] : List S69),(0 : Int),(0 : Int),(0 : Int)⟩
def k51 : Kd S51:=Kd.iso (Kd.pair (Kd.slice 3 (Kd.int .i64)) (Kd.pair (Kd.slice 69 k69) (Kd.pair (Kd.int .i64) (Kd.pair (Kd.int .i64) (Kd.int .i64))))) (fun x : S51=>(x.f0,x.f1,x.f2,x.f3,x.f4))
theorem k51_open {w : World} {x : S51} {cs : List Value} (h : k51.K w x cs) : ∃ A0 c0 A1 c1,cs = [.slice A0 x.f0.length c0,.slice A1 x.f1.length c1,.int .i64 x.f2,.int .i64 x.f3,.int .i64 x.f4] ∧ x.f0.length ≤ c0 ∧ (Kd.int .i64).C w A0 x.f0.length x.f0 ∧ x.f1.length ≤ c1 ∧ k69.C w A1 x.f1.length x.f1:=by
  obtain ⟨_,_,rfl,⟨A0,c0,rfl,l0,g0⟩,⟨_,_,rfl,⟨A1,c1,rfl,l1,g1⟩,⟨_,_,rfl,rfl,⟨_,_,rfl,rfl,rfl⟩⟩⟩⟩:=h
  exact ⟨A0,c0,A1,c1,rfl,l0,g0,l1,g1⟩
theorem k51_openM {w : World} {base : Nat} {ok : Nat → Prop} {x : S51} {cs : List Value} (h : k51.M w base ok x cs) : ∃ v0 v1,cs = [v0,v1,.int .i64 x.f2,.int .i64 x.f3,.int .i64 x.f4] ∧ (Kd.int .i64).R 3 w base ok v0 x.f0 ∧ k69.R 69 w base ok v1 x.f1:=by
  obtain ⟨_,_,rfl,⟨v0,rfl,g0⟩,⟨_,_,rfl,⟨v1,rfl,g1⟩,⟨_,_,rfl,rfl,⟨_,_,rfl,rfl,rfl⟩⟩⟩⟩:=h
  exact ⟨v0,v1,rfl,g0,g1⟩
theorem k51_mk (w : World) (x : S51) {A0 : Option Addr} {c0 : Nat} (l0 : x.f0.length ≤ c0) (g0 : (Kd.int .i64).C w A0 x.f0.length x.f0) {A1 : Option Addr} {c1 : Nat} (l1 : x.f1.length ≤ c1) (g1 : k69.C w A1 x.f1.length x.f1) : k51.K w x [.slice A0 x.f0.length c0,.slice A1 x.f1.length c1,.int .i64 x.f2,.int .i64 x.f3,.int .i64 x.f4]:=⟨[.slice A0 x.f0.length c0],[.slice A1 x.f1.length c1,.int .i64 x.f2,.int .i64 x.f3,.int .i64 x.f4],rfl,⟨A0,c0,rfl,l0,g0⟩,⟨[.slice A1 x.f1.length c1],[.int .i64 x.f2,.int .i64 x.f3,.int .i64 x.f4],rfl,⟨A1,c1,rfl,l1,g1⟩,⟨[.int .i64 x.f2],[.int .i64 x.f3,.int .i64 x.f4],rfl,rfl,⟨[.int .i64 x.f3],[.int .i64 x.f4],rfl,rfl,rfl⟩⟩⟩⟩
theorem k51_mkM (w : World) (base : Nat) (ok : Nat → Prop) (x : S51) {v0 : Value} (g0 : (Kd.int .i64).R 3 w base ok v0 x.f0) {v1 : Value} (g1 : k69.R 69 w base ok v1 x.f1) : k51.M w base ok x [v0,v1,.int .i64 x.f2,.int .i64 x.f3,.int .i64 x.f4]:=⟨[v0],[v1,.int .i64 x.f2,.int .i64 x.f3,.int .i64 x.f4],rfl,⟨v0,rfl,g0⟩,⟨[v1],[.int .i64 x.f2,.int .i64 x.f3,.int .i64 x.f4],rfl,⟨v1,rfl,g1⟩,⟨[.int .i64 x.f2],[.int .i64 x.f3,.int .i64 x.f4],rfl,rfl,⟨[.int .i64 x.f3],[.int .i64 x.f4],rfl,rfl,rfl⟩⟩⟩⟩
def rd_T51 (xs : List S51) (i : Int) : S51:=xs.getD i.toNat z51
theorem at_T51 {w : World} {A : Option Addr} {n : Nat} {xs : List S51} (h : Kd.C k51 w A n xs) (i : Int) (h0 : 0 ≤ i) (h1 : i < n) : ∃ ad A0 c0 A1 c1,A = some ad ∧ w.cell? (ad.add (i.toNat * 5)) = some (.slice A0 (rd_T51 xs i).f0.length c0) ∧ w.cell? ⟨(ad.add (i.toNat * 5)).block,(ad.add (i.toNat * 5)).off + 1,none⟩ = some (.slice A1 (rd_T51 xs i).f1.length c1) ∧ w.cell? ⟨(ad.add (i.toNat * 5)).block,(ad.add (i.toNat * 5)).off + 2,none⟩ = some (.int .i64 (rd_T51 xs i).f2) ∧ w.cell? ⟨(ad.add (i.toNat * 5)).block,(ad.add (i.toNat * 5)).off + 3,none⟩ = some (.int .i64 (rd_T51 xs i).f3) ∧ w.cell? ⟨(ad.add (i.toNat * 5)).block,(ad.add (i.toNat * 5)).off + 4,none⟩ = some (.int .i64 (rd_T51 xs i).f4) ∧ (rd_T51 xs i).f0.length ≤ c0 ∧ (Kd.int .i64).C w A0 (rd_T51 xs i).f0.length (rd_T51 xs i).f0 ∧ (rd_T51 xs i).f1.length ≤ c1 ∧ k69.C w A1 (rd_T51 xs i).f1.length (rd_T51 xs i).f1:=by
  obtain ⟨ad,c,e,_,hK,hc0⟩:=Kd.C_get h z51 i h0 h1
  have hc : ∀ j u,c[j]? = some u → w.cell? (ad.add (i.toNat * 5 + j)) = some u:=hc0
  obtain ⟨A0,c0,A1,c1,rfl,l0,g0,l1,g1⟩:=k51_open hK
  exact ⟨ad,A0,c0,A1,c1,e,hc 0 _ rfl,by rw [← add_field _ _ 1 (by omega)];exact hc 1 _ rfl,by rw [← add_field _ _ 2 (by omega)];exact hc 2 _ rfl,by rw [← add_field _ _ 3 (by omega)];exact hc 3 _ rfl,by rw [← add_field _ _ 4 (by omega)];exact hc 4 _ rfl,l0,g0,l1,g1⟩
structure S38 where
  f0 : Int
  f1 : Int
def z38 : S38:=⟨(0 : Int),(0 : Int)⟩
def k38 : Kd S38:=Kd.iso (Kd.pair (Kd.int .i64) (Kd.int .i64)) (fun x : S38=>(x.f0,x.f1))
theorem k38_open {w : World} {x : S38} {cs : List Value} (h : k38.K w x cs) : cs = [.int .i64 x.f0,.int .i64 x.f1]:=by
  obtain ⟨_,_,rfl,rfl,rfl⟩:=h
  exact rfl
def rd_T38 (xs : List S38) (i : Int) : S38:=xs.getD i.toNat z38
theorem at_T38 {w : World} {A : Option Addr} {n : Nat} {xs : List S38} (h : Kd.C k38 w A n xs) (i : Int) (h0 : 0 ≤ i) (h1 : i < n) : ∃ ad ,A = some ad ∧ w.cell? (ad.add (i.toNat * 2)) = some (.int .i64 (rd_T38 xs i).f0) ∧ w.cell? ⟨(ad.add (i.toNat * 2)).block,(ad.add (i.toNat * 2)).off + 1,none⟩ = some (.int .i64 (rd_T38 xs i).f1):=by
  obtain ⟨ad,c,e,_,hK,hc0⟩:=Kd.C_get h z38 i h0 h1
  have hc : ∀ j u,c[j]? = some u → w.cell? (ad.add (i.toNat * 2 + j)) = some u:=hc0
  obtain rfl:=k38_open hK
  exact ⟨ad,e,hc 0 _ rfl,by rw [← add_field _ _ 1 (by omega)];exact hc 1 _ rfl⟩
def rd_L7 (xs : List (List S51)) (i : Int) : (List S51):=xs.getD i.toNat ([] : List S51)
def rd_L8 (xs : List (List (List Int))) (i : Int) : (List (List Int)):=xs.getD i.toNat ([] : List (List Int))
def rd_L9 (xs : List (List S38)) (i : Int) : (List S38):=xs.getD i.toNat ([] : List S38)
structure S33 where
  f0 : (List S51)
  f1 : (List Int)
  f2 : (List Int)
  f3 : (List (List Int))
  f4 : (List S38)
def z33 : S33:=⟨([] : List S51),([] : List Int),([] : List Int),([] : List (List Int)),([] : List S38)⟩
def k33 : Kd S33:=Kd.iso (Kd.pair (Kd.slice 51 k51) (Kd.pair (Kd.slice 3 (Kd.int .i64)) (Kd.pair (Kd.slice 3 (Kd.int .i64)) (Kd.pair (Kd.slice 26 (Kd.slice 3 (Kd.int .i64))) (Kd.slice 38 k38))))) (fun x : S33=>(x.f0,x.f1,x.f2,x.f3,x.f4))
def rd_T33 (xs : List S33) (i : Int) : S33:=xs.getD i.toNat z33
structure S7 where
  f0 : Int
  f1 : Int
  f2 : Bool
  f3 : Int
def z7 : S7:=⟨(0 : Int),(0 : Int),false,(0 : Int)⟩
def k7 : Kd S7:=Kd.iso (Kd.pair (Kd.int .i64) (Kd.pair (Kd.int .i64) (Kd.pair Kd.bool (Kd.int .u8)))) (fun x : S7=>(x.f0,x.f1,x.f2,x.f3))
def rd_T7 (xs : List S7) (i : Int) : S7:=xs.getD i.toNat z7
structure S8 where
  f0 : Int
  f1 : Int
  f2 : Bool
  f3 : Int
def z8 : S8:=⟨(0 : Int),(0 : Int),false,(0 : Int)⟩
def k8 : Kd S8:=Kd.iso (Kd.pair (Kd.int .i64) (Kd.pair (Kd.int .i64) (Kd.pair Kd.bool (Kd.int .u8)))) (fun x : S8=>(x.f0,x.f1,x.f2,x.f3))
def rd_T8 (xs : List S8) (i : Int) : S8:=xs.getD i.toNat z8
structure S13 where
  f0 : ByteArray
  f1 : Int
def z13 : S13:=⟨(⟨#[]⟩ : ByteArray),(0 : Int)⟩
def k13 : Kd S13:=Kd.iso (Kd.pair Kd.string (Kd.int .u64)) (fun x : S13=>(x.f0,x.f1))
def rd_T13 (xs : List S13) (i : Int) : S13:=xs.getD i.toNat z13
structure S14 where
  f0 : ByteArray
  f1 : Int
def z14 : S14:=⟨(⟨#[]⟩ : ByteArray),(0 : Int)⟩
def k14 : Kd S14:=Kd.iso (Kd.pair Kd.string (Kd.int .u64)) (fun x : S14=>(x.f0,x.f1))
def rd_T14 (xs : List S14) (i : Int) : S14:=xs.getD i.toNat z14
def rd_L18 (xs : List (List Int)) (i : Int) : (List Int):=xs.getD i.toNat ([] : List Int)
structure S32 where
  f0 : (List S51)
  f1 : (List Int)
  f2 : (List Int)
  f3 : (List (List Int))
  f4 : (List S38)
def z32 : S32:=⟨([] : List S51),([] : List Int),([] : List Int),([] : List (List Int)),([] : List S38)⟩
def k32 : Kd S32:=Kd.iso (Kd.pair (Kd.slice 51 k51) (Kd.pair (Kd.slice 3 (Kd.int .i64)) (Kd.pair (Kd.slice 3 (Kd.int .i64)) (Kd.pair (Kd.slice 26 (Kd.slice 3 (Kd.int .i64))) (Kd.slice 38 k38))))) (fun x : S32=>(x.f0,x.f1,x.f2,x.f3,x.f4))
def rd_T32 (xs : List S32) (i : Int) : S32:=xs.getD i.toNat z32
structure S37 where
  f0 : Int
  f1 : Int
def z37 : S37:=⟨(0 : Int),(0 : Int)⟩
def k37 : Kd S37:=Kd.iso (Kd.pair (Kd.int .i64) (Kd.int .i64)) (fun x : S37=>(x.f0,x.f1))
def rd_T37 (xs : List S37) (i : Int) : S37:=xs.getD i.toNat z37
def rd_L21 (xs : List (List (List S69))) (i : Int) : (List (List S69)):=xs.getD i.toNat ([] : List (List S69))
structure S50 where
  f0 : (List Int)
  f1 : (List S69)
  f2 : Int
  f3 : Int
  f4 : Int
def z50 : S50:=⟨([] : List Int),([] : List S69),(0 : Int),(0 : Int),(0 : Int)⟩
def k50 : Kd S50:=Kd.iso (Kd.pair (Kd.slice 3 (Kd.int .i64)) (Kd.pair (Kd.slice 69 k69) (Kd.pair (Kd.int .i64) (Kd.pair (Kd.int .i64) (Kd.int .i64))))) (fun x : S50=>(x.f0,x.f1,x.f2,x.f3,x.f4))
def rd_T50 (xs : List S50) (i : Int) : S50:=xs.getD i.toNat z50
structure S52 where
  f0 : (List Int)
  f1 : Int
def z52 : S52:=⟨([] : List Int),(0 : Int)⟩
def k52 : Kd S52:=Kd.iso (Kd.pair (Kd.slice 5 (Kd.int .u8)) (Kd.int .i64)) (fun x : S52=>(x.f0,x.f1))
def rd_T52 (xs : List S52) (i : Int) : S52:=xs.getD i.toNat z52
structure S53 where
  f0 : (List Int)
  f1 : Int
def z53 : S53:=⟨([] : List Int),(0 : Int)⟩
def k53 : Kd S53:=Kd.iso (Kd.pair (Kd.slice 5 (Kd.int .u8)) (Kd.int .i64)) (fun x : S53=>(x.f0,x.f1))
def rd_T53 (xs : List S53) (i : Int) : S53:=xs.getD i.toNat z53
structure S68 where
  f0 : Int
  f1 : Int
  f2 : Int
  f3 : Int
  f4 : (List S69)
  f5 : (List S69)
def z68 : S68:=⟨(0 : Int),(0 : Int),(0 : Int),(0 : Int),([] : List S69),([] : List S69)⟩
def k68 : Kd S68:=Kd.iso (Kd.pair (Kd.int .i64) (Kd.pair (Kd.int .i64) (Kd.pair (Kd.int .i64) (Kd.pair (Kd.int .i64) (Kd.pair (Kd.slice 69 k69) (Kd.slice 69 k69)))))) (fun x : S68=>(x.f0,x.f1,x.f2,x.f3,x.f4,x.f5))
def rd_T68 (xs : List S68) (i : Int) : S68:=xs.getD i.toNat z68
end Go.Proofs.Ytfbocgagfodgnaa.P

namespace Go.Proofs.Ytfbocgagfodgnaa.P
open Go.RowKit Go.Proofs.YtfbocgagfodgnaaW.PrintWords Go.Proofs.YtfbocgagfodgnaaW.PrintLast Go.Proofs.YtfbocgagfodgnaaW.PrintMore
set_option linter.unusedVariables false
set_option linter.unusedSimpArgs false
section
variable {P : Program} {ops : Array Oper} {Q : Exit → Act → World → Prop} {md : Region.Mode} {S : World → Prop} {ds : List Nat}
theorem put_tmps (a : Act) (t : Tmp) (v : Value) (s : Nat) : (a.put (some t) v).tmps[s]? = if s = t ∧ t < a.tmps.size then some v else a.tmps[s]?:=by
  show (a.tmps.setIfInBounds t v)[s]? = _
  by_cases h : s = t
  · subst h
    by_cases hl : s < a.tmps.size
    · rw [Array.getElem?_setIfInBounds_self_of_lt hl,if_pos ⟨rfl,hl⟩]
    · rw [if_neg (fun z=>hl z.2),Array.getElem?_eq_none (by simp;omega),Array.getElem?_eq_none (by omega)]
  · rw [Array.getElem?_setIfInBounds_ne (fun z=>h z.symm),if_neg (fun z=>h z.1)]
theorem put_size (a : Act) (t : Tmp) (v : Value) : (a.put (some t) v).tmps.size = a.tmps.size:=by
  show (a.tmps.setIfInBounds t v).size = _
  simp
def puts (a : Act) (gs : List (Nat × Tmp)) (vs : Nat → Value) : Act:=putAll a (gs.map fun g=>(g.2,vs g.1))
theorem puts_size (vs : Nat → Value) : ∀ (gs : List (Nat × Tmp)) (a : Act),(puts a gs vs).tmps.size = a.tmps.size ∧ (puts a gs vs).defers = a.defers
  | [],a=>⟨rfl,rfl⟩
  | g :: gs,a=>by
    have h:=puts_size vs gs (a.put (some g.2) (vs g.1))
    exact ⟨h.1.trans (put_size _ _ _),h.2⟩
theorem puts_old (vs : Nat → Value) : ∀ (gs : List (Nat × Tmp)) (a : Act) (t : Nat),t ∉ gs.map (·.2) → (puts a gs vs).tmps[t]? = a.tmps[t]?
  | [],a,t,_=>rfl
  | g :: gs,a,t,h=>by
    have h1 : t ≠ g.2:=fun z=>h (by simp [z])
    have h2 : t ∉ gs.map (·.2):=fun z=>h (by rw [List.map_cons];exact List.mem_cons_of_mem _ z)
    have:=puts_old vs gs (a.put (some g.2) (vs g.1)) t h2
    rw [put_tmps,if_neg (fun z=>h1 z.1)] at this
    exact this
theorem puts_new (vs : Nat → Value) : ∀ (gs : List (Nat × Tmp)) (a : Act) (g : Nat × Tmp),g ∈ gs → (gs.map (·.2)).Nodup → g.2 < a.tmps.size → (puts a gs vs).tmps[g.2]? = some (vs g.1)
  | g' :: gs,a,g,h,hn,hl=>by
    rw [List.map_cons,List.nodup_cons] at hn
    rcases List.mem_cons.1 h with rfl | h
    · have:=puts_old vs gs (a.put (some g.2) (vs g.1)) g.2 hn.1
      rw [put_tmps,if_pos ⟨rfl,hl⟩] at this
      exact this
    · exact puts_new vs gs (a.put (some g'.2) (vs g'.1)) g h hn.2 (by rw [put_size];exact hl)
def growB (md : Region.Mode) (ops : Array Oper) (l0 l1 : Array Bool) (gs : List (Nat × Tmp)) (nt : Nat) : Bool :=
  (l0.size == ops.size) && (l1.size == ops.size) && (gs.map (·.1)).Nodup && (gs.map (·.2)).Nodup && Region.closedB md ops l0
  && gs.all (fun g=>decide (g.1 < ops.size) && !l0.getD g.1 true && decide (g.2 < nt) && match ops[g.1]? with | some o=>(o.dst == some g.2) && (o.guard.isNone) && o.after.all (fun e=>!Region.binds md e || (decide (e.on < g.1) && (l0.getD e.on false || (gs.map (·.1)).contains e.on))) | none=>false)
  && (List.range ops.size).all (fun j=>(l1.getD j true == ((gs.map (·.1)).contains j || l0.getD j true)) && (l0.getD j true || (gs.map (·.1)).contains j || gs.all fun g=>Region.reachB md ops g.1 ops.size j))
structure GrowOk (md : Region.Mode) (ops : Array Oper) (l0 l1 : Array Bool) (gs : List (Nat × Tmp)) (nt : Nat) : Prop where
  s0 : l0.size = ops.size
  s1 : l1.size = ops.size
  n1 : (gs.map (·.1)).Nodup
  n2 : (gs.map (·.2)).Nodup
  cl : ListedClosed md ops l0
  ok : ∀ g ∈ gs,g.1 < ops.size ∧ l0.getD g.1 true = false ∧ g.2 < nt ∧ ∃ o,ops[g.1]? = some o ∧ o.dst = some g.2 ∧ o.guard = none ∧ ∀ e ∈ o.after,Region.binds md e = true → e.on < g.1 ∧ (l0.getD e.on false = true ∨ e.on ∈ gs.map (·.1))
  re : ∀ j,j < ops.size → l1.getD j true = (decide (j ∈ gs.map (·.1)) || l0.getD j true) ∧ (l0.getD j true = true ∨ j ∈ gs.map (·.1) ∨ ∀ g ∈ gs,Region.reachB md ops g.1 ops.size j = true)
theorem growB_spec {l0 l1 : Array Bool} {gs : List (Nat × Tmp)} {nt : Nat} (h : growB md ops l0 l1 gs nt = true) : GrowOk md ops l0 l1 gs nt:=by
  unfold growB at h
  simp only [Bool.and_eq_true,decide_eq_true_eq,beq_iff_eq] at h
  obtain ⟨⟨⟨⟨⟨⟨h1,h2⟩,h3⟩,h4⟩,h5⟩,h6⟩,h7⟩:=h
  refine ⟨h1,h2,h3,h4,Region.closedB_spec h5,fun g hg=>?_,fun j hj=>?_⟩
  · have z:=List.all_eq_true.1 h6 g hg
    simp only [Bool.and_eq_true,decide_eq_true_eq,Bool.not_eq_true'] at z
    obtain ⟨⟨⟨z1,z2⟩,z3⟩,z4⟩:=z
    refine ⟨z1,z2,z3,?_⟩
    cases ho : ops[g.1]? with
    | none=>rw [ho] at z4;simp at z4
    | some o =>
      rw [ho] at z4
      simp only [Bool.and_eq_true,beq_iff_eq,Option.isNone_iff_eq_none] at z4
      refine ⟨o,rfl,z4.1.1,z4.1.2,fun e he hb=>?_⟩
      have y:=Array.all_eq_true_iff_forall_mem.1 z4.2 e he
      simp only [hb,Bool.not_true,Bool.false_or,Bool.and_eq_true,decide_eq_true_eq,Bool.or_eq_true,List.contains_iff_mem] at y
      exact y
  · have z:=List.all_eq_true.1 h7 j (List.mem_range.2 hj)
    simp only [Bool.and_eq_true,beq_iff_eq,Bool.or_eq_true,List.contains_iff_mem] at z
    refine ⟨?_,?_⟩
    · rw [z.1]
      congr 1
      by_cases y : j ∈ gs.map (·.1)
      · rw [decide_eq_true y];exact List.contains_iff_mem.2 y
      · rw [decide_eq_false y]
        cases y2 : (gs.map (·.1)).contains j
        · rfl
        · exact absurd (List.contains_iff_mem.1 y2) y
    · rcases z.2 with (a | b) | c
      · exact .inl a
      · exact .inr (.inl b)
      · exact .inr (.inr fun g hg=>List.all_eq_true.1 c g hg)
theorem wanted_none {o : Oper} (y : Nat → Option Bool) (h : o.guard = none) : Region.wanted o y = true:=by
  unfold Region.wanted
  rw [h]
theorem mem_needs {o : Oper} {k : Nat} : k ∈ needsOf md o ↔ ∃ e ∈ o.after,Region.binds md e = true ∧ e.on = k:=by
  unfold needsOf
  simp [List.mem_map,List.mem_filter,and_assoc]
theorem getD_in {l : Array Bool} {j : Nat} (h : j < l.size) (b c : Bool) : l.getD j b = l.getD j c:=by simp [h]
theorem grow_all {fuel : Nat} {l0 : Array Bool} {a0 : Act} {w0 : World} (gs : List (Nat × Tmp)) (l1 : Array Bool) (hc : GrowOk md ops l0 l1 gs a0.tmps.size) (G : Nat → (Nat → Value) → World → Value → Prop)
    (mono : ∀ i vs w w' v,Below w.heap.size w w' → G i vs w v → G i vs w' v)
    (cong : ∀ g ∈ gs,∀ oi,ops[g.1]? = some oi → ∀ vs vs' w v,(∀ k ∈ needsOf md oi,vs k = vs' k) → G g.1 vs w v → G g.1 vs' w v)
    (hS : ∀ w,Below w0.heap.size w0 w → S w)
    (step : ∀ g ∈ gs,∀ oi,ops[g.1]? = some oi → ∀ (a : Act) (w : World) (vs : Nat → Value),Below w0.heap.size w0 w → (∀ k ∈ gs,k.1 ∈ needsOf md oi → G k.1 vs w (vs k.1) ∧ a.eval (.tmp k.2) = vs k.1) → (∀ t,t ∉ gs.map (·.2) → a.eval (.tmp t) = a0.eval (.tmp t)) → ∀ K : Act → World → Prop,(∀ v w',Below w.heap.size w w' → G g.1 vs w' v → K (a.put (some g.2) v) w') → if Region.wanted oi (yielded ops a.tmps) = true then Oper.wp P oi a w K Q else K (a.put oi.dst undef) w)
    (done : ∀ vs w,Below w0.heap.size w0 w → (∀ g ∈ gs,G g.1 vs w (vs g.1)) → wpAnyLast P md ops Q S ds fuel l1 (puts a0 gs vs) w) :
    ∀ (n : Nat) (rs : List Nat) (l : Array Bool) (a : Act) (w : World) (vs : Nat → Value),rs.length = n → rs.Nodup → (∀ i ∈ rs,i ∈ gs.map (·.1)) → l.size = l0.size → (∀ j,j < ops.size → l.getD j true = (l0.getD j true || (decide (j ∈ gs.map (·.1)) && !decide (j ∈ rs)))) → ListedClosed md ops l → a.tmps.size = a0.tmps.size → a.defers = a0.defers → (∀ g ∈ gs,g.1 ∉ rs → a.tmps[g.2]? = some (vs g.1) ∧ G g.1 vs w (vs g.1)) → (∀ t,(∀ g ∈ gs,g.1 ∉ rs → g.2 ≠ t) → a.tmps[t]? = a0.tmps[t]?) → Below w0.heap.size w0 w → wpAnyLast P md ops Q S ds (fuel + n) l a w:=by
  intro n
  induction n with
  | zero =>
    intro rs l a w vs hr _ _ hls hl _ hsz hdf hg ho hB
    obtain rfl:=List.eq_nil_of_length_eq_zero hr
    have e1 : l = l1:=by
      apply Array.ext (by rw [hls,hc.s0,hc.s1])
      intro j h1 h2
      have hj : j < ops.size:=by rw [← hc.s1];exact h2
      have z:=hl j hj
      rw [(show l.getD j true = l[j] by simp [h1])] at z
      have y:=(hc.re j hj).1
      rw [(show l1.getD j true = l1[j] by simp [h2])] at y
      rw [z,y]
      simp [Bool.or_comm]
    have e2 : a = puts a0 gs vs:=by
      obtain ⟨t1,d1⟩:=a
      obtain ⟨p1,p2⟩:=puts_size vs gs a0
      have : t1 = (puts a0 gs vs).tmps:=by
        apply Array.ext_getElem?
        intro t
        by_cases h : t ∈ gs.map (·.2)
        · obtain ⟨g,hgm,rfl⟩:=List.mem_map.1 h
          rw [puts_new vs gs a0 g hgm hc.n2 (hc.ok g hgm).2.2.1]
          exact (hg g hgm (by simp)).1
        · rw [puts_old vs gs a0 t h]
          exact ho t fun g hgm _ z=>h (List.mem_map.2 ⟨g,hgm,z⟩)
      subst this
      have hd2 : d1 = (puts a0 gs vs).defers:=hdf.trans p2.symm
      rw [hd2]
    rw [e1,e2]
    exact done vs w hB fun g hgm=>(hg g hgm (by simp)).2
  | succ n ih =>
    intro rs l a w vs hr hnd hrg hls hl hcl hsz hdf hg ho hB
    have hun : ∀ r ∈ rs,l.getD r true = false:=fun r hrm=>by
      obtain ⟨g,hgm,rfl⟩:=List.mem_map.1 (hrg r hrm)
      rw [hl g.1 (hc.ok g hgm).1,(hc.ok g hgm).2.1,decide_eq_true hrm]
      simp
    have hli : ∀ j,j < ops.size → j ∈ gs.map (·.1) → j ∉ rs → l.getD j true = true:=fun j hj hm hn=>by
      rw [hl j hj,decide_eq_true hm,decide_eq_false hn]
      simp
    have hsize : l.size = ops.size:=by rw [hls,hc.s0]
    refine ⟨fun hnone=>?_,fun i hi=>?_⟩
    · exfalso
      -- the least that remains is ready
      obtain ⟨m,hm,hmin⟩ : ∃ m ∈ rs,∀ r ∈ rs,m ≤ r:=by
        have hne : rs ≠ []:=fun z=>by rw [z] at hr;simp at hr
        have key : ∀ (xs : List Nat),xs ≠ [] → ∃ m ∈ xs,∀ r ∈ xs,m ≤ r:=by
          intro xs
          induction xs with
          | nil=>intro h;exact absurd rfl h
          | cons x t ih2 =>
            intro _
            by_cases ht : t = []
            · subst ht;exact ⟨x,by simp,fun r hr=>by simp at hr;omega⟩
            · obtain ⟨m,hm,hmin⟩:=ih2 ht
              by_cases hx : x ≤ m
              · exact ⟨x,by simp,fun r hr=>by rcases List.mem_cons.1 hr with rfl | h;exact Nat.le_refl _;exact Nat.le_trans hx (hmin r h)⟩
              · exact ⟨m,by simp [hm],fun r hr=>by rcases List.mem_cons.1 hr with rfl | h;omega;exact hmin r h⟩
        exact key rs hne
      obtain ⟨g,hgm,rfl⟩:=List.mem_map.1 (hrg m hm)
      obtain ⟨g1,g2,g3,o,ho1,ho2,ho3,hed⟩:=hc.ok g hgm
      have : g.1 ∈ Region.ready md ops l:=mem_ready.2 ⟨hun _ hm,o,ho1,fun e he hb=>by
        obtain ⟨e1,e2⟩:=hed e he hb
        have hin : e.on < ops.size:=by omega
        rw [getD_in (by omega) false true,hl _ hin]
        rcases e2 with e2 | e2
        · rw [getD_in (by rw [hc.s0];omega) false true] at e2
          rw [e2];rfl
        · have : e.on ∉ rs:=fun z=>by have:=hmin _ z;omega
          rw [decide_eq_true e2,decide_eq_false this]
          simp⟩
      rw [hnone] at this
      cases this
    · obtain ⟨hiu,o,hoi,hall⟩:=mem_ready.1 hi
      have hilt : i < ops.size:=(Array.getElem?_eq_some_iff.1 hoi).1
      have hig : i ∈ gs.map (·.1):=by
        rcases (hc.re i hilt).2 with h | h | h
        · rw [hl i hilt,h] at hiu
          simp at hiu
        · exact h
        · exfalso
          obtain ⟨r,hrm⟩ : ∃ r,r ∈ rs:=by
            cases rs with
            | nil=>simp at hr
            | cons r t=>exact ⟨r,by simp⟩
          obtain ⟨g,hgm,rfl⟩:=List.mem_map.1 (hrg r hrm)
          exact Region.reach_not_ready hcl (h g hgm) (hun _ hrm) hi
      have hir : i ∈ rs:=by
        by_cases h : i ∈ rs
        · exact h
        · rw [hli i hilt hig h] at hiu
          cases hiu
      obtain ⟨g,hgm,rfl⟩:=List.mem_map.1 hig
      obtain ⟨g1,g2,g3,o',ho1,ho2,ho3,hed⟩:=hc.ok g hgm
      obtain rfl : o' = o:=Option.some.inj (ho1.symm.trans hoi)
      refine wpOp_step hoi fun K hK=>?_
      refine step g hgm o' hoi a w vs hB (fun k hk hkn=>?_) (fun t ht=>?_) K fun v w' hb hG=>?_
      · obtain ⟨e,he,hbd,hek⟩:=mem_needs.1 hkn
        have h1:=hall e he hbd
        have hkr : k.1 ∉ rs:=fun z=>by
          have h2:=hun _ z
          rw [hek,getD_in (by rw [hsize];exact (hc.ok k hk).1) false true,h2] at h1
          cases h1
        obtain ⟨h3,h4⟩:=hg k hk hkr
        refine ⟨h4,?_⟩
        show a.tmps.getD k.2 undef = _
        rw [Array.getD_eq_getD_getElem?,h3]
        rfl
      · show a.tmps.getD t undef = a0.tmps.getD t undef
        rw [Array.getD_eq_getD_getElem?,Array.getD_eq_getD_getElem?,ho t fun g' hg' _ z=>ht (List.mem_map.2 ⟨g',hg',z⟩)]
      · refine hK _ _ ⟨fun _ _=>hS w' (below_step hB hb),?_⟩
        have hmem : ∀ j,j ∈ rs.erase g.1 ↔ j ∈ rs ∧ j ≠ g.1:=fun j=>by
          rw [hnd.mem_erase_iff]
          exact And.comm
        have hself : ∀ k ∈ needsOf md o',k ≠ g.1:=fun k hk z=>by
          obtain ⟨e,he,hbd,hek⟩:=mem_needs.1 hk
          have:=(hed e he hbd).1
          omega
        refine ih (rs.erase g.1) _ _ w' (fun k=>if k = g.1 then v else vs k) ?_ (hnd.erase _) (fun j hj=>hrg j ((hmem j).1 hj).1) (by simp [hls]) (fun j hj=>?_) (hcl.set hi) (by rw [put_size];exact hsz) (by exact hdf) (fun k hk hkr=>?_) (fun t ht=>?_) (below_step hB hb)
        · rw [List.length_erase_of_mem hir,hr]
          rfl
        · by_cases hjg : j = g.1
          · subst hjg
            have : (l.setIfInBounds g.1 true).getD g.1 true = true:=by simp [hsize,hj]
            rw [this,decide_eq_true hig,decide_eq_false (fun z=>((hmem _).1 z).2 rfl)]
            simp
          · rw [getD_set_ne true (fun z=>hjg z.symm),hl j hj]
            have : decide (j ∈ rs.erase g.1) = decide (j ∈ rs):=by
              by_cases z : j ∈ rs
              · rw [decide_eq_true z,decide_eq_true ((hmem j).2 ⟨z,hjg⟩)]
              · rw [decide_eq_false z,decide_eq_false fun y=>z ((hmem j).1 y).1]
            rw [this]
        · by_cases hkg : k.1 = g.1
          · have hkk : k = g:=by
              have h5:=hc.n1
              have aux : ∀ (xs : List (Nat × Tmp)),(xs.map (·.1)).Nodup → k ∈ xs → g ∈ xs → k = g:=by
                intro xs
                induction xs with
                | nil=>intro _ h;cases h
                | cons x t ih3 =>
                  intro hn hk1 hg1
                  rw [List.map_cons,List.nodup_cons] at hn
                  rcases List.mem_cons.1 hk1 with rfl | hk7 <;> rcases List.mem_cons.1 hg1 with rfl | hg7
                  · rfl
                  · exact absurd (List.mem_map.2 ⟨g,hg7,hkg.symm⟩) hn.1
                  · exact absurd (List.mem_map.2 ⟨k,hk7,hkg⟩) hn.1
                  · exact ih3 hn.2 hk7 hg7
              exact aux gs h5 hk hgm
            subst hkk
            rw [put_tmps,if_pos ⟨rfl,by rw [hsz];exact g3⟩,if_pos rfl]
            exact ⟨rfl,cong k hk o' hoi vs _ w' v (fun q hq=>(if_neg (hself q hq)).symm) hG⟩
          · have hkr2 : k.1 ∉ rs:=fun z=>hkr ((hmem _).2 ⟨z,hkg⟩)
            obtain ⟨h3,h4⟩:=hg k hk hkr2
            have hne2 : k.2 ≠ g.2:=by
              have h5:=hc.n2
              intro z
              have aux : ∀ (xs : List (Nat × Tmp)),(xs.map (·.2)).Nodup → k ∈ xs → g ∈ xs → k = g:=by
                intro xs
                induction xs with
                | nil=>intro _ h;cases h
                | cons x t ih3 =>
                  intro hn hk1 hg1
                  rw [List.map_cons,List.nodup_cons] at hn
                  rcases List.mem_cons.1 hk1 with rfl | hk7 <;> rcases List.mem_cons.1 hg1 with rfl | hg7
                  · rfl
                  · exact absurd (List.mem_map.2 ⟨g,hg7,z.symm⟩) hn.1
                  · exact absurd (List.mem_map.2 ⟨k,hk7,z⟩) hn.1
                  · exact ih3 hn.2 hk7 hg7
              exact hkg (congrArg (·.1) (aux gs h5 hk hgm))
            rw [put_tmps,if_neg (fun z=>hne2 z.1),if_neg hkg]
            refine ⟨h3,?_⟩
            obtain ⟨k1,k2,k3,ok,hk1,hk2,hk3,hked⟩:=hc.ok k hk
            refine cong k hk ok hk1 vs _ w' _ (fun q hq=>(if_neg fun z=>?_).symm) (mono _ _ _ _ _ hb h4)
            obtain ⟨e,he,hbd,hek⟩:=mem_needs.1 hq
            have hlk : l.getD k.1 false = true:=by rw [getD_in (by rw [hsize];exact k1) false true];exact hli _ k1 (List.mem_map.2 ⟨k,hk,rfl⟩) hkr2
            have:=hcl k.1 ok hk1 hlk e he hbd
            rw [hek,z,getD_in (by rw [hsize];exact g1) false true,hun _ hir] at this
            cases this
        · have hne : t ≠ g.2:=fun z=>ht g hgm (fun y=>((hmem _).1 y).2 rfl) z.symm
          rw [put_tmps,if_neg (fun z=>hne z.1)]
          exact ho t fun g' hg' hn'=>ht g' hg' (fun y=>hn' ((hmem _).1 y).1)
theorem grow_ {fuel fuel1 : Nat} {l0 : Array Bool} {a0 : Act} {w0 : World} (gs : List (Nat × Tmp)) (l1 : Array Bool) (nt : Nat) (hnt : a0.tmps.size = nt) (hc : growB md ops l0 l1 gs nt = true) (hf : fuel1 = fuel + gs.length) (G : Nat → (Nat → Value) → World → Value → Prop)
    (mono : ∀ i vs w w' v,Below w.heap.size w w' → G i vs w v → G i vs w' v)
    (cong : ∀ g ∈ gs,∀ oi,ops[g.1]? = some oi → ∀ vs vs' w v,(∀ k ∈ needsOf md oi,vs k = vs' k) → G g.1 vs w v → G g.1 vs' w v)
    (hS : ∀ w,Below w0.heap.size w0 w → S w)
    (step : ∀ g ∈ gs,∀ oi,ops[g.1]? = some oi → ∀ (a : Act) (w : World) (vs : Nat → Value),Below w0.heap.size w0 w → (∀ k ∈ gs,k.1 ∈ needsOf md oi → G k.1 vs w (vs k.1) ∧ a.eval (.tmp k.2) = vs k.1) → (∀ t,t ∉ gs.map (·.2) → a.eval (.tmp t) = a0.eval (.tmp t)) → ∀ K : Act → World → Prop,(∀ v w',Below w.heap.size w w' → G g.1 vs w' v → K (a.put (some g.2) v) w') → if Region.wanted oi (yielded ops a.tmps) = true then Oper.wp P oi a w K Q else K (a.put oi.dst undef) w)
    (done : ∀ vs w,Below w0.heap.size w0 w → (∀ g ∈ gs,G g.1 vs w (vs g.1)) → wpAnyLast P md ops Q S ds fuel l1 (puts a0 gs vs) w) : wpAnyLast P md ops Q S ds fuel1 l0 a0 w0:=by
  subst hnt
  subst hf
  have h:=growB_spec hc
  refine grow_all gs l1 h G mono cong hS step done gs.length (gs.map (·.1)) l0 a0 w0 (fun _=>undef) (by simp) h.n1 (fun _ hi=>hi) rfl (fun j hj=>?_) h.cl rfl rfl (fun g hg hn=>absurd (List.mem_map.2 ⟨g,hg,rfl⟩) hn) (fun _ _=>rfl) (Below.refl _ _)
  cases decide (j ∈ gs.map (·.1)) <;> simp
theorem same_ {α : Type} {o : Option α} {x y : α} (h : o = some x) (k : o = some y) : y = x:=Option.some.inj (k.symm.trans h)
theorem lit0_step {α : Type} {o : Oper} {a : Act} {W : World} {Kc : Act → World → Prop} (d : Kd α) (base e : Nat) (hw : Region.wanted o (yielded ops a.tmps) = true)
    (hrun : (execOp a.eval o).run P W = .ok (.value (.slice (some ⟨W.heap.size,0,none⟩) 0 0)) (W.alloc (.cells #[] e))) (hbase : base ≤ W.heap.size)
    (h : ∀ g w1,W.heap.size ≤ g → d.R e w1 base (fun _=>True) (.slice (some ⟨g,0,none⟩) 0 0) ([] : List α) → Below W.heap.size W w1 → Kc (a.put o.dst (.slice (some ⟨g,0,none⟩) 0 0)) w1) :
    if Region.wanted o (yielded ops a.tmps) = true then Oper.wp P o a W Kc Q else Kc (a.put o.dst undef) W:=by
  refine event_step hw hrun (h _ _ (Nat.le_refl _) ⟨fun _ _=>trivial,[],?_,Reps.none _ _⟩ (below_alloc (Below.refl _ _) _))
  have h2:=World.ownsRow_lit (base:=base) (e:=e) (size:=d.sz) W #[] 0 hbase (by simp [maxLen]) (by simp)
  simpa using h2
theorem lit_append_stepY {α : Type} {o : Oper} {a : Act} {W : World} {Kc : Act → World → Prop} (d : Kd α) {Rr : α → List Value → Prop} (base : Nat) (hw : Region.wanted o (yielded ops a.tmps) = true) (s x : Operand) (t e : TypeId) (z : Value) (bytes : Nat)
    (ho : o.op = .call { callee:=.builtin .append,args:=#[s,x],argTypes:=#[t,t] })
    (ht : P.underlying t = some (.slice e)) (hinfo : (P.info? e).map (fun i=>(i.zero,i.size,i.bytes)) = some (some z,d.sz,bytes)) (hz : z.cells.size = d.sz) (hs0 : 0 < d.sz)
    (g : Nat) (ys : List α) (A : Option Addr) (m c : Nat) (okp : Nat → Prop) (hs : a.eval s = .slice (some ⟨g,0,none⟩) 0 0) (hx : a.eval x = .slice A m c)
    (HO : d.R e W base (fun _=>True) (.slice (some ⟨g,0,none⟩) 0 0) ([] : List α)) (HR : ReadsRow Rr d.sz W A m ys) (hKM : ∀ x cs,Rr x cs → d.M W base okp x cs) (hbase : base ≤ W.heap.size) (hl : m * bytes ≤ 140737488355328)
    (hb0 : 0 < bytes) (h : ∀ v1 w1,d.R e w1 base (fun k=>okp k ∨ W.heap.size ≤ k ∨ k = g) v1 ys → Below W.heap.size W w1 → (ys = [] → ∃ A,v1 = .slice A 0 0) → (∀ k,v1.ownBlock = some k → k = g ∨ W.heap.size ≤ k) → Kc (a.put o.dst v1) w1) :
    if Region.wanted o (yielded ops a.tmps) = true then Oper.wp P o a W Kc Q else Kc (a.put o.dst undef) W:=by
  obtain ⟨i0,hi,hzz⟩:=Option.map_eq_some_iff.1 hinfo
  simp only [Prod.mk.injEq] at hzz
  obtain ⟨hz0,hz1,hz2⟩:=hzz
  have hm : ys.length = m:=HR.1
  have hmm : m ≤ 140737488355328:=Nat.le_trans (Nat.le_mul_of_pos_right _ hb0) hl
  have hrun : ∃ v1 w1,(Builtin.append_ #[t,t] o.type #[.slice (some ⟨g,0,none⟩) 0 0,.slice A m c]).run P W = .ok v1 w1 ∧ d.R e w1 base (fun k=>okp k ∨ W.heap.size ≤ k ∨ k = g) v1 ys ∧ Below W.heap.size W w1 ∧ (ys = [] → ∃ A,v1 = .slice A 0 0) ∧ (∀ k,v1.ownBlock = some k → k = g ∨ W.heap.size ≤ k):=by
    by_cases h0 : m = 0
    · subst h0
      obtain rfl:=List.eq_nil_of_length_eq_zero hm
      obtain ⟨_,inner0,ho0,hr0⟩:=HO
      refine ⟨.slice (some ⟨g,0,none⟩) 0 0,W,?_,⟨fun k hk=>.inr (.inr (Option.some.inj (show some g = some k from hk)).symm),inner0,ho0,hr0.1,fun j p hj=>by simp at hj⟩,Below.refl _ _,fun _=>⟨_,rfl⟩,fun k hk=>.inl (Option.some.inj (show some g = some k from hk)).symm⟩
      cases A <;> simp [Builtin.append_,run_underlying ht,sizeOf,typeInfo,hi,Builtin.lenOf,Builtin.firstCells,storeCells,loadCells,loadCellsFrom]
    · obtain ⟨ad,rfl,_⟩:=HR.2.2 (by omega)
      obtain ⟨news,hnr,hnc⟩:=ReadsRow.inner_ HR
      have hnM : Reps (d.M W base okp) d.sz ys news:=hnr.imp_ (fun p c hp=>hKM p c hp)
      have hone : ∀ u ∈ news,u.oneCell' = true:=by
        intro u hu
        obtain ⟨q,hq,rfl⟩:=List.mem_iff_getElem.1 hu
        have hql : q / d.sz < ys.length:=by
          rw [Nat.div_lt_iff_lt_mul hs0]
          rw [← hnM.1]
          exact hq
        have hc:=hnM.2 (q / d.sz) _ (List.getElem?_eq_getElem hql)
        refine d.K_one (d.K_of_M hc) _ ?_
        rw [List.mem_iff_getElem?]
        refine ⟨q % d.sz,?_⟩
        rw [List.getElem?_take,if_pos (Nat.mod_lt _ hs0),List.getElem?_drop,Nat.mul_comm,Nat.div_add_mod,List.getElem?_eq_getElem hq]
      have hnl : news.length = m * i0.size:=by rw [hnM.1,hm,hz1]
      obtain ⟨v1,w1,hr,h2,hg,_,hat⟩:=run_append_own_at (P:=P) W base t o.type e i0 z d.sz bytes ht hi hz0 hz1 hz2 hz hs0 (.slice none 0 0) 0 [] (own_nil W base e d.sz) ad m c news (by rw [hnM.1,hm]) hnc hone (by simp only [maxLen];omega) (by simpa using hl) hbase
      have r1:=run_append_nil (P:=P) W t o.type e i0 z ht hi hz0 ad m c news hnl hnc (by omega) (by omega) (by rw [hz2];omega)
      have r2:=run_append_grow (P:=P) W t o.type e i0 z ht hi hz0 ⟨g,0,none⟩ 0 0 [] (by simp) (fun j v hj=>by simp at hj) ad m c news hnl hnc (by omega) (by omega) (growslice_fits (by omega) (by rw [hz2];simpa using hl))
      have hb : Below W.heap.size W w1:=⟨hg.os,hg.tape,hg.output,hg.size,fun k hk=>hg.block k hk (by simp [Value.ownBlock])⟩
      have own_ : ∀ k,v1.ownBlock = some k → W.heap.size ≤ k:=fun k hk=>by
        rcases hat with hat | hat
        · rw [hat] at hk
          simp [Value.ownBlock] at hk
        · rw [hat] at hk
          injection hk with hk
          omega
      refine ⟨v1,w1,?_,⟨fun k hk=>.inr (.inl (own_ k hk)),news,by simpa [hm] using h2,hnM.imp_ fun p cs hp=>?_⟩,hb,fun e=>absurd (by rw [← hm,e];rfl) h0,fun k hk=>.inr (own_ k hk)⟩
      · rw [← hr,r1,r2]
        simp
      · refine d.M_mono (fun k hk=>⟨.inl hk.1,fun z=>?_⟩) (Kd.M_below (d.M_bound hp) hb)
        rcases hat with hat | hat
        · rw [hat] at z
          simp [Value.ownBlock] at z
        · rw [hat] at z
          injection z with z
          have:=hk.2.2.1
          omega
  obtain ⟨v1,w1,hr1,h1,hb⟩:=hrun
  rw [if_pos hw]
  unfold Oper.wp execOp
  simp only [ho,resolve,invoke,builtin,Sem.run_bind,Sem.run_pure,Result.andThen_ok,List.map_toArray,List.map_cons,List.map_nil,hs,hx,hr1]
  exact h v1 w1 h1 hb.1 hb.2.1 hb.2.2
theorem lit_append_stepZ {α : Type} {o : Oper} {a : Act} {W : World} {Kc : Act → World → Prop} (d : Kd α) {Rr : α → List Value → Prop} (base : Nat) (hw : Region.wanted o (yielded ops a.tmps) = true) (s x : Operand) (t e : TypeId) (z : Value) (bytes : Nat)
    (ho : o.op = .call { callee:=.builtin .append,args:=#[s,x],argTypes:=#[t,t] })
    (ht : P.underlying t = some (.slice e)) (hinfo : (P.info? e).map (fun i=>(i.zero,i.size,i.bytes)) = some (some z,d.sz,bytes)) (hz : z.cells.size = d.sz) (hs0 : 0 < d.sz)
    (g : Nat) (ys : List α) (A : Option Addr) (m c : Nat) (okp : Nat → Prop) (hs : a.eval s = .slice (some ⟨g,0,none⟩) 0 0) (hx : a.eval x = .slice A m c)
    (HO : d.R e W base (fun _=>True) (.slice (some ⟨g,0,none⟩) 0 0) ([] : List α)) (HR : ReadsRow Rr d.sz W A m ys) (hKM : ∀ x cs,Rr x cs → d.M W base okp x cs) (hbase : base ≤ W.heap.size) (hl : m * bytes ≤ 140737488355328)
    (hb0 : 0 < bytes) (h : ∀ v1 w1,d.R e w1 base (fun _=>True) v1 ys → Below W.heap.size W w1 → (ys = [] → ∃ A,v1 = .slice A 0 0) → Kc (a.put o.dst v1) w1) :
    if Region.wanted o (yielded ops a.tmps) = true then Oper.wp P o a W Kc Q else Kc (a.put o.dst undef) W :=
  lit_append_stepY d base hw s x t e z bytes ho ht hinfo hz hs0 g ys A m c okp hs hx HO HR hKM hbase hl hb0 fun v1 w1 a1 a2 a3 _=>h v1 w1 (Kd.R_mono a1 fun _ _=>trivial) a2 a3
theorem lit_append_step {α : Type} {o : Oper} {a : Act} {W : World} {Kc : Act → World → Prop} (d : Kd α) {Rr : α → List Value → Prop} (base : Nat) (hw : Region.wanted o (yielded ops a.tmps) = true) (s x : Operand) (t e : TypeId) (z : Value) (bytes : Nat)
    (ho : o.op = .call { callee:=.builtin .append,args:=#[s,x],argTypes:=#[t,t] })
    (ht : P.underlying t = some (.slice e)) (hinfo : (P.info? e).map (fun i=>(i.zero,i.size,i.bytes)) = some (some z,d.sz,bytes)) (hz : z.cells.size = d.sz) (hs0 : 0 < d.sz)
    (g : Nat) (ys : List α) (A : Option Addr) (m c : Nat) (okp : Nat → Prop) (hs : a.eval s = .slice (some ⟨g,0,none⟩) 0 0) (hx : a.eval x = .slice A m c)
    (HO : d.R e W base (fun _=>True) (.slice (some ⟨g,0,none⟩) 0 0) ([] : List α)) (HR : ReadsRow Rr d.sz W A m ys) (hKM : ∀ x cs,Rr x cs → d.M W base okp x cs) (hbase : base ≤ W.heap.size) (hl : m * bytes ≤ 140737488355328)
    (hb0 : 0 < bytes) (h : ∀ v1 w1,d.R e w1 base (fun _=>True) v1 ys → Below W.heap.size W w1 → Kc (a.put o.dst v1) w1) :
    if Region.wanted o (yielded ops a.tmps) = true then Oper.wp P o a W Kc Q else Kc (a.put o.dst undef) W :=
  lit_append_stepZ d base hw s x t e z bytes ho ht hinfo hz hs0 g ys A m c okp hs hx HO HR hKM hbase hl hb0 fun v1 w1 a1 a2 _=>h v1 w1 a1 a2
end
end Go.Proofs.Ytfbocgagfodgnaa.P

namespace Go.Proofs.Ytfbocgagfodgnaa.P
def prO (l : List S69) : S51:=⟨List.replicate 3 0,l,0,0,-1⟩
def wo0 (r : Bool) (l : List (List S69)) : List S51:=if r then l.map prO else []
def wo1 (r : Bool) : List Int:=if r then List.replicate 3 0 else []
def wo2 (r : Bool) : List Int:=if r then List.replicate 2 0 else []
def wo3 (r : Bool) : List (List Int):=if r then List.replicate 2 [] else []
end Go.Proofs.Ytfbocgagfodgnaa.P

namespace Go.Proofs.Ytfbocgagfodgnaa.P
open Go.RowKit Go.Proofs.YtfbocgagfodgnaaW.PrintWords Go.Proofs.YtfbocgagfodgnaaW.PrintLast Go.Proofs.YtfbocgagfodgnaaW.PrintMore
attribute [local go_sem] max2_int min2_int max_two min_two max_three min_three max_four min_four
set_option linter.unusedVariables false
set_option linter.unusedSimpArgs false
theorem goesM_ {P : Program} {ops : Array Oper} {Q : Exit → Act → World → Prop} {rest : List Oper} {oi : Oper} {a : Act} {w : World} (N : Option Tmp) {f : FuncId} {fn : Func} {as_ : Array Operand} {ts : Array TypeId} (hf : P.funcs[f]? = some fn) (args : Array Value) (h : Calls P f args w fun e w' => ∃ v, e = .returned v ∧ wpList P ops Q rest (a.put N v) w') (hd : oi.dst = N := by exact rfl) (hg : oi.guard = none := by exact rfl) (hname : (fn.name == "runtime.NumGoroutine") = false := by kernel_rfl) (hb : fn.body.isSome = true := by exact rfl) (hop : oi.op = .call { callee := .value (.func f), args := as_, argTypes := ts } := by exact rfl) (hargs : as_.map a.eval = args := by (try simp only [List.map_toArray, List.map_cons, List.map_nil]); first | done | rfl | (simp only [List.length_drop, List.length_take]; rfl)) : wpList P ops Q (oi :: rest) a w := goesL_ N hd hg hf hname hb args hop hargs h
theorem bz2_ {w : World} {g : Nat} {t : TypeId} {c0 c1 : Value} (h : Aside0 (w.heap[g]? = some (.cells #[c0,c1] t (0,0)))) : w.cell? ⟨g,0,none⟩ = some c0 ∧ w.cell? ⟨g,1,none⟩ = some c1 ∧ w.frozen? ⟨g,0,none⟩ = false ∧ w.frozen? ⟨g,1,none⟩ = false:=⟨(blk_cell h.out 0).trans rfl,(blk_cell h.out 1).trans rfl,blk_frozen h.out 0,blk_frozen h.out 1⟩
theorem bp2_0_ {w : World} {g : Nat} {t : TypeId} {c0 c1 z : Value} (h : w.heap[g]? = some (.cells #[z,c1] t (0,0))) : (w.setCell ⟨g,0,none⟩ c0).heap[g]? = some (.cells #[c0,c1] t (0,0)):=blk_put h 0 c0 rfl
theorem bp2_1_ {w : World} {g : Nat} {t : TypeId} {c0 c1 z : Value} (h : w.heap[g]? = some (.cells #[c0,z] t (0,0))) : (w.setCell ⟨g,1,none⟩ c1).heap[g]? = some (.cells #[c0,c1] t (0,0)):=blk_put h 1 c1 rfl
theorem bz5_ {w : World} {g : Nat} {t : TypeId} {c0 c1 c2 c3 c4 : Value} (h : Aside0 (w.heap[g]? = some (.cells #[c0,c1,c2,c3,c4] t (0,0)))) : w.cell? ⟨g,0,none⟩ = some c0 ∧ w.cell? ⟨g,1,none⟩ = some c1 ∧ w.cell? ⟨g,2,none⟩ = some c2 ∧ w.cell? ⟨g,3,none⟩ = some c3 ∧ w.cell? ⟨g,4,none⟩ = some c4 ∧ w.frozen? ⟨g,0,none⟩ = false ∧ w.frozen? ⟨g,1,none⟩ = false ∧ w.frozen? ⟨g,2,none⟩ = false ∧ w.frozen? ⟨g,3,none⟩ = false ∧ w.frozen? ⟨g,4,none⟩ = false:=⟨(blk_cell h.out 0).trans rfl,(blk_cell h.out 1).trans rfl,(blk_cell h.out 2).trans rfl,(blk_cell h.out 3).trans rfl,(blk_cell h.out 4).trans rfl,blk_frozen h.out 0,blk_frozen h.out 1,blk_frozen h.out 2,blk_frozen h.out 3,blk_frozen h.out 4⟩
theorem bp5_0_ {w : World} {g : Nat} {t : TypeId} {c0 c1 c2 c3 c4 z : Value} (h : w.heap[g]? = some (.cells #[z,c1,c2,c3,c4] t (0,0))) : (w.setCell ⟨g,0,none⟩ c0).heap[g]? = some (.cells #[c0,c1,c2,c3,c4] t (0,0)):=blk_put h 0 c0 rfl
theorem bp5_1_ {w : World} {g : Nat} {t : TypeId} {c0 c1 c2 c3 c4 z : Value} (h : w.heap[g]? = some (.cells #[c0,z,c2,c3,c4] t (0,0))) : (w.setCell ⟨g,1,none⟩ c1).heap[g]? = some (.cells #[c0,c1,c2,c3,c4] t (0,0)):=blk_put h 1 c1 rfl
theorem bp5_2_ {w : World} {g : Nat} {t : TypeId} {c0 c1 c2 c3 c4 z : Value} (h : w.heap[g]? = some (.cells #[c0,c1,z,c3,c4] t (0,0))) : (w.setCell ⟨g,2,none⟩ c2).heap[g]? = some (.cells #[c0,c1,c2,c3,c4] t (0,0)):=blk_put h 2 c2 rfl
theorem bp5_3_ {w : World} {g : Nat} {t : TypeId} {c0 c1 c2 c3 c4 z : Value} (h : w.heap[g]? = some (.cells #[c0,c1,c2,z,c4] t (0,0))) : (w.setCell ⟨g,3,none⟩ c3).heap[g]? = some (.cells #[c0,c1,c2,c3,c4] t (0,0)):=blk_put h 3 c3 rfl
theorem bp5_4_ {w : World} {g : Nat} {t : TypeId} {c0 c1 c2 c3 c4 z : Value} (h : w.heap[g]? = some (.cells #[c0,c1,c2,c3,z] t (0,0))) : (w.setCell ⟨g,4,none⟩ c4).heap[g]? = some (.cells #[c0,c1,c2,c3,c4] t (0,0)):=blk_put h 4 c4 rfl
theorem bz6_ {w : World} {g : Nat} {t : TypeId} {c0 c1 c2 c3 c4 c5 : Value} (h : Aside0 (w.heap[g]? = some (.cells #[c0,c1,c2,c3,c4,c5] t (0,0)))) : w.cell? ⟨g,0,none⟩ = some c0 ∧ w.cell? ⟨g,1,none⟩ = some c1 ∧ w.cell? ⟨g,2,none⟩ = some c2 ∧ w.cell? ⟨g,3,none⟩ = some c3 ∧ w.cell? ⟨g,4,none⟩ = some c4 ∧ w.cell? ⟨g,5,none⟩ = some c5 ∧ w.frozen? ⟨g,0,none⟩ = false ∧ w.frozen? ⟨g,1,none⟩ = false ∧ w.frozen? ⟨g,2,none⟩ = false ∧ w.frozen? ⟨g,3,none⟩ = false ∧ w.frozen? ⟨g,4,none⟩ = false ∧ w.frozen? ⟨g,5,none⟩ = false:=⟨(blk_cell h.out 0).trans rfl,(blk_cell h.out 1).trans rfl,(blk_cell h.out 2).trans rfl,(blk_cell h.out 3).trans rfl,(blk_cell h.out 4).trans rfl,(blk_cell h.out 5).trans rfl,blk_frozen h.out 0,blk_frozen h.out 1,blk_frozen h.out 2,blk_frozen h.out 3,blk_frozen h.out 4,blk_frozen h.out 5⟩
theorem bp6_0_ {w : World} {g : Nat} {t : TypeId} {c0 c1 c2 c3 c4 c5 z : Value} (h : w.heap[g]? = some (.cells #[z,c1,c2,c3,c4,c5] t (0,0))) : (w.setCell ⟨g,0,none⟩ c0).heap[g]? = some (.cells #[c0,c1,c2,c3,c4,c5] t (0,0)):=blk_put h 0 c0 rfl
theorem bp6_1_ {w : World} {g : Nat} {t : TypeId} {c0 c1 c2 c3 c4 c5 z : Value} (h : w.heap[g]? = some (.cells #[c0,z,c2,c3,c4,c5] t (0,0))) : (w.setCell ⟨g,1,none⟩ c1).heap[g]? = some (.cells #[c0,c1,c2,c3,c4,c5] t (0,0)):=blk_put h 1 c1 rfl
theorem bp6_2_ {w : World} {g : Nat} {t : TypeId} {c0 c1 c2 c3 c4 c5 z : Value} (h : w.heap[g]? = some (.cells #[c0,c1,z,c3,c4,c5] t (0,0))) : (w.setCell ⟨g,2,none⟩ c2).heap[g]? = some (.cells #[c0,c1,c2,c3,c4,c5] t (0,0)):=blk_put h 2 c2 rfl
theorem bp6_3_ {w : World} {g : Nat} {t : TypeId} {c0 c1 c2 c3 c4 c5 z : Value} (h : w.heap[g]? = some (.cells #[c0,c1,c2,z,c4,c5] t (0,0))) : (w.setCell ⟨g,3,none⟩ c3).heap[g]? = some (.cells #[c0,c1,c2,c3,c4,c5] t (0,0)):=blk_put h 3 c3 rfl
theorem bp6_4_ {w : World} {g : Nat} {t : TypeId} {c0 c1 c2 c3 c4 c5 z : Value} (h : w.heap[g]? = some (.cells #[c0,c1,c2,c3,z,c5] t (0,0))) : (w.setCell ⟨g,4,none⟩ c4).heap[g]? = some (.cells #[c0,c1,c2,c3,c4,c5] t (0,0)):=blk_put h 4 c4 rfl
theorem bp6_5_ {w : World} {g : Nat} {t : TypeId} {c0 c1 c2 c3 c4 c5 z : Value} (h : w.heap[g]? = some (.cells #[c0,c1,c2,c3,c4,z] t (0,0))) : (w.setCell ⟨g,5,none⟩ c5).heap[g]? = some (.cells #[c0,c1,c2,c3,c4,c5] t (0,0)):=blk_put h 5 c5 rfl
theorem q0_ {A Z : Prop} (a0 : Aside0 A) (h : A → Z:=by intro h0_;repeat (first | (with_reducible first | exact h0_ | apply below_alloc | apply pw_below_drewN | apply below_drew1) | exact h0_)) : Z:=h a0.out
theorem q1_ {A Z : Prop} (a0 : Aside0 A) (h : A → Z:=by intro h0_;repeat (first | (with_reducible first | exact h0_ | apply IsS53.alloc | apply IsS53.drewN | apply IsS53.drew | apply IsS53.set_1) | exact h0_)) : Z:=h a0.out
theorem q2_ {A B Z : Prop} (a0 : Aside0 A) (a1 : Aside0 B) (h : A → B → Z:=by intro h0_ h1_;repeat (first | (with_reducible first | exact h0_ | apply below_alloc | apply pw_below_drewN | apply below_drew1 | refine below_set ?_ (IsS53.ge h1_)) | exact h0_)) : Z:=h a0.out a1.out
theorem q3_ {A Z : Prop} (a0 : Aside0 A) (h : A → Z:=by intro h0_;repeat (first | (with_reducible first | exact h0_ | apply KeepBut.set_ | apply keep_drewN | apply keep_drew | apply keep_alloc) | exact h0_)) : Z:=h a0.out
theorem q4_ {A B Z : Prop} (a0 : Aside0 A) (a1 : Aside0 B) (h : A → B → Z:=by intro h0_ h1_;repeat (first | (with_reducible first | exact h0_ | apply IsS53.alloc | apply IsS53.drewN | apply IsS53.drew | apply IsS53.set_1 | refine IsS53.far ?_ h1_ _) | exact h0_)) : Z:=h a0.out a1.out
theorem q5_ {A B C Z : Prop} (a0 : Aside0 A) (a1 : Aside0 B) (a2 : Aside0 C) (h : A → B → C → Z:=by intro h0_ h1_ h2_;repeat (first | (with_reducible first | exact h0_ | apply below_alloc | apply pw_below_drewN | apply below_drew1 | refine below_set ?_ (IsS53.ge h1_) | refine below_set ?_ h2_) | exact h0_)) : Z:=h a0.out a1.out a2.out
theorem q6_ {A Z : Prop} (a0 : Aside0 A) (h : A → Z:=by intro h0_;(with_reducible repeat (first | refine blk_drewN ?_ _ | refine blk_drew ?_ | refine blk_alloc ?_ _));exact h0_) : Z:=h a0.out
theorem q7_ {A B Z : Prop} (a0 : Aside0 A) (a1 : Aside0 B) (h : A → B → Z:=by intro h0_ h1_;repeat (first | (with_reducible first | exact h0_ | apply KeepBut.set_ | apply keep_drewN | apply keep_drew | apply keep_alloc | refine keep_far ?_ h1_ _) | exact h0_)) : Z:=h a0.out a1.out
theorem q8_ {A Z : Prop} (a0 : Aside0 A) (h : A → Z:=by intro h0_;(with_reducible repeat (first | apply Kd.R_alloc | apply Kd.R_drewN | apply Kd.R_drew));exact h0_) : Z:=h a0.out
theorem q9_ {A Z : Prop} (a0 : Aside0 A) (h : A → Z:=by intro h0_;(with_reducible repeat (first | refine blk_drewN ?_ _ | refine blk_drew ?_ | refine blk_alloc ?_ _));apply bp6_5_;(with_reducible repeat (first | refine blk_drewN ?_ _ | refine blk_drew ?_ | refine blk_alloc ?_ _));apply bp6_4_;(with_reducible repeat (first | refine blk_drewN ?_ _ | refine blk_drew ?_ | refine blk_alloc ?_ _));apply bp6_3_;(with_reducible repeat (first | refine blk_drewN ?_ _ | refine blk_drew ?_ | refine blk_alloc ?_ _));apply bp6_2_;(with_reducible repeat (first | refine blk_drewN ?_ _ | refine blk_drew ?_ | refine blk_alloc ?_ _));apply bp6_1_;(with_reducible repeat (first | refine blk_drewN ?_ _ | refine blk_drew ?_ | refine blk_alloc ?_ _));apply bp6_0_;(with_reducible repeat (first | refine blk_drewN ?_ _ | refine blk_drew ?_ | refine blk_alloc ?_ _));exact h0_) : Z:=h a0.out
theorem q10_ {A B Z : Prop} (a0 : Aside0 A) (a1 : Aside0 B) (h : A → B → Z:=by intro h0_ h1_;repeat (first | (with_reducible first | exact h0_ | apply below_alloc | apply pw_below_drewN | apply below_drew1 | refine below_set ?_ h1_) | exact h0_)) : Z:=h a0.out a1.out
theorem q11_ {A Z : Prop} (a0 : Aside0 A) (h : A → Z:=by intro h0_;(with_reducible repeat (first | apply Kd.N_alloc | apply Kd.N_drewN | apply Kd.N_drew));exact h0_) : Z:=h a0.out
end Go.Proofs.Ytfbocgagfodgnaa.P
