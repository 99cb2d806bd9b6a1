/- Parts of the proof of FnExactCpuTwin: plain Lean functions of Go functions, and that the calls come to what they say; no condition beyond those that each theorem names. -/
import Derived.Test.YthbflhimmmfonaaProg
import Derived.Below
import Derived.Deep.Draws
import Derived.Deep.AppendLies
import Derived.Maps.AppendAt
import Derived.OwnWalk
import Derived.Laws.BytesArg
import Derived.Laws.MakeOwn
import Derived.Laws.OwnMore
import Derived.Deep.OwnRows
import Derived.Tactics
import Derived.Lib.ConvBytes
import Derived.Laws.Slices
import Derived.WalkKit
import Derived.KernelRfl
import Derived.RowKit3
import Derived.Deep.LoopGhost
import Derived.Deep.QuietTactic
import Derived.BigQuiet
import Derived.WideLaws
import Derived.Deep.DeepCutAuto
import Derived.Deep.CutBlock
import Derived.Deep.RegionHeld3
import Derived.Laws.Rows
import Derived.Lib.AppendStr
import Derived.ArgAppend
import Derived.Laws.IdiomCopy
import Derived.OrdersHeld
import Derived.Laws.BitsLemmas
import Derived.RowKit
import Derived.Test.YthbflhimmmfonaaZFnExactCpuTwin0
import Derived.Test.YthbflhimmmfonaaZFnExactCpuTwin1
import Derived.Test.YthbflhimmmfonaaZFnExactCpuTwin2
import Derived.Test.YthbflhimmmfonaaZFnExactCpuTwin3
namespace Go.Proofs.Ythbflhimmmfonaa.P
open Go.RowKit Go.Proofs.YthbflhimmmfonaaW.PrintWords Go.Proofs.YthbflhimmmfonaaW.PrintLast Go.Proofs.YthbflhimmmfonaaW.PrintMore
attribute [local go_sem] max2_int min2_int max_two min_two max_three min_three max_four min_four
set_option linter.unusedVariables false
set_option linter.unusedSimpArgs false
def errW : Option Int → Value
  | none=>.nilIface
  | some c=>.iface 0 (.int .i64 c)
theorem errW_none : errW none = .nilIface:=rfl
theorem errW_some (c : Int) : errW (some c) = .iface 0 (.int .i64 c):=rfl
section
variable {α : Type} {d : Kd α} {e : Nat} {w : World} {base : Nat} {ok : Nat → Prop} {v : Value} {xs : List α}
theorem slice_store (h : ∃ A n c,v = .slice A n c) (P : Program) (W : World) (a : Addr) (m : Mode) : (store a v m).run P W = stored P W a v m:=by
  obtain ⟨A,n,c,rfl⟩:=h
  exact run_store_slice ..
theorem R_store (h : d.R e w base ok v xs) (P : Program) (W : World) (a : Addr) (m : Mode) : (store a v m).run P W = stored P W a v m:=by
  obtain ⟨A,c,h'⟩:=Kd.R_slice h
  exact slice_store ⟨A,_,c,h'⟩ P W a m
end
theorem info3 : (Try.prog.info? 3).map (fun i=>(i.zero,i.size,i.bytes)) = some (some (.int .i64 0),1,8):=by kernel_rfl
theorem info23 : (Try.prog.info? 23).map (fun i=>(i.zero,i.size,i.bytes)) = some (some (.slice none 0 0),1,24):=by kernel_rfl
theorem info67 : (Try.prog.info? 67).map (fun i=>(i.zero,i.size,i.bytes)) = some (some (.agg #[(.slice none 0 0),(.int .i64 0),(.int .i64 0),(.int .i64 0),(.int .i64 0)]),5,56):=by kernel_rfl
theorem info74 : (Try.prog.info? 74).map (fun i=>(i.zero,i.size,i.bytes)) = some (some (.agg #[(.int .i64 0),(.int .i64 0)]),2,16):=by kernel_rfl
theorem info84 : (Try.prog.info? 84).map (fun i=>(i.zero,i.size,i.bytes)) = some (some (.agg #[(.slice none 0 0),(.slice none 0 0),(.int .i64 0),(.int .i64 0),(.int .i64 0)]),5,72):=by kernel_rfl
theorem info104 : (Try.prog.info? 104).map (fun i=>(i.zero,i.size,i.bytes)) = some (some (.agg #[(.int .i64 0),(.int .i64 0),(.int .i64 0),(.int .i64 0),(.slice none 0 0),(.slice none 0 0)]),6,80):=by kernel_rfl
def rd_L1 (xs : List (List Int)) (i : Int) : (List Int):=xs.getD i.toNat ([] : List Int)
theorem at_L1 {w : World} {A : Option Addr} {n : Nat} {xs : List (List Int)} (h : Kd.C (Kd.slice 3 (Kd.int .i64)) w A n xs) (i : Int) (h0 : 0 ≤ i) (h1 : i < n) : ∃ ad A0 c0,A = some ad ∧ w.cell? (ad.add i.toNat) = some (.slice A0 (rd_L1 xs i).length c0) ∧ (rd_L1 xs i).length ≤ c0 ∧ (Kd.int .i64).C w A0 (rd_L1 xs i).length (rd_L1 xs i):=by
  obtain ⟨ad,c,e,_,hK,hc0⟩:=Kd.C_get h ([] : List Int) i h0 h1
  have hc : ∀ j u,c[j]? = some u → w.cell? (ad.add (i.toNat * 1 + j)) = some u:=hc0
  obtain ⟨A0,c0,rfl,l0,g0⟩:=hK
  exact ⟨ad,A0,c0,e,by have hq:=hc 0 _ rfl;rwa [Nat.mul_one,Nat.add_zero] at hq,l0,g0⟩
structure S109 where
  f0 : (List Int)
  f1 : Int
  f2 : Int
  f3 : Int
  f4 : Int
def z109 : S109:=⟨([] : List Int),(0 : Int),(0 : Int),(0 : Int),(0 : Int)⟩
def k109 : Kd S109:=Kd.iso (Kd.pair (Kd.slice 3 (Kd.int .i64)) (Kd.pair (Kd.int .i64) (Kd.pair (Kd.int .i64) (Kd.pair (Kd.int .i64) (Kd.int .i64))))) (fun x : S109=>(x.f0,x.f1,x.f2,x.f3,x.f4))
theorem k109_open {w : World} {x : S109} {cs : List Value} (h : k109.K w x cs) : ∃ A0 c0,cs = [.slice A0 x.f0.length c0,.int .i64 x.f1,.int .i64 x.f2,.int .i64 x.f3,.int .i64 x.f4] ∧ x.f0.length ≤ c0 ∧ (Kd.int .i64).C w A0 x.f0.length x.f0:=by
  obtain ⟨_,_,rfl,⟨A0,c0,rfl,l0,g0⟩,⟨_,_,rfl,rfl,⟨_,_,rfl,rfl,⟨_,_,rfl,rfl,rfl⟩⟩⟩⟩:=h
  exact ⟨A0,c0,rfl,l0,g0⟩
theorem k109_mk (w : World) (x : S109) {A0 : Option Addr} {c0 : Nat} (l0 : x.f0.length ≤ c0) (g0 : (Kd.int .i64).C w A0 x.f0.length x.f0) : k109.K w x [.slice A0 x.f0.length c0,.int .i64 x.f1,.int .i64 x.f2,.int .i64 x.f3,.int .i64 x.f4]:=⟨[.slice A0 x.f0.length c0],[.int .i64 x.f1,.int .i64 x.f2,.int .i64 x.f3,.int .i64 x.f4],rfl,⟨A0,c0,rfl,l0,g0⟩,⟨[.int .i64 x.f1],[.int .i64 x.f2,.int .i64 x.f3,.int .i64 x.f4],rfl,rfl,⟨[.int .i64 x.f2],[.int .i64 x.f3,.int .i64 x.f4],rfl,rfl,⟨[.int .i64 x.f3],[.int .i64 x.f4],rfl,rfl,rfl⟩⟩⟩⟩
def rd_T109 (xs : List S109) (i : Int) : S109:=xs.getD i.toNat z109
theorem at_T109 {w : World} {A : Option Addr} {n : Nat} {xs : List S109} (h : Kd.C k109 w A n xs) (i : Int) (h0 : 0 ≤ i) (h1 : i < n) : ∃ ad A0 c0,A = some ad ∧ w.cell? (ad.add (i.toNat * 5)) = some (.slice A0 (rd_T109 xs i).f0.length c0) ∧ w.cell? ⟨(ad.add (i.toNat * 5)).block,(ad.add (i.toNat * 5)).off + 1,none⟩ = some (.int .i64 (rd_T109 xs i).f1) ∧ w.cell? ⟨(ad.add (i.toNat * 5)).block,(ad.add (i.toNat * 5)).off + 2,none⟩ = some (.int .i64 (rd_T109 xs i).f2) ∧ w.cell? ⟨(ad.add (i.toNat * 5)).block,(ad.add (i.toNat * 5)).off + 3,none⟩ = some (.int .i64 (rd_T109 xs i).f3) ∧ w.cell? ⟨(ad.add (i.toNat * 5)).block,(ad.add (i.toNat * 5)).off + 4,none⟩ = some (.int .i64 (rd_T109 xs i).f4) ∧ (rd_T109 xs i).f0.length ≤ c0 ∧ (Kd.int .i64).C w A0 (rd_T109 xs i).f0.length (rd_T109 xs i).f0:=by
  obtain ⟨ad,c,e,_,hK,hc0⟩:=Kd.C_get h z109 i h0 h1
  have hc : ∀ j u,c[j]? = some u → w.cell? (ad.add (i.toNat * 5 + j)) = some u:=hc0
  obtain ⟨A0,c0,rfl,l0,g0⟩:=k109_open hK
  exact ⟨ad,A0,c0,e,hc 0 _ rfl,by rw [← add_field _ _ 1 (by omega)];exact hc 1 _ rfl,by rw [← add_field _ _ 2 (by omega)];exact hc 2 _ rfl,by rw [← add_field _ _ 3 (by omega)];exact hc 3 _ rfl,by rw [← add_field _ _ 4 (by omega)];exact hc 4 _ rfl,l0,g0⟩
structure S112 where
  f0 : Int
  f1 : Int
def z112 : S112:=⟨(0 : Int),(0 : Int)⟩
def k112 : Kd S112:=Kd.iso (Kd.pair (Kd.int .i64) (Kd.int .i64)) (fun x : S112=>(x.f0,x.f1))
theorem k112_open {w : World} {x : S112} {cs : List Value} (h : k112.K w x cs) : cs = [.int .i64 x.f0,.int .i64 x.f1]:=by
  obtain ⟨_,_,rfl,rfl,rfl⟩:=h
  exact rfl
theorem k112_mk (w : World) (x : S112)  : k112.K w x [.int .i64 x.f0,.int .i64 x.f1]:=⟨[.int .i64 x.f0],[.int .i64 x.f1],rfl,rfl,rfl⟩
def rd_T112 (xs : List S112) (i : Int) : S112:=xs.getD i.toNat z112
theorem at_T112 {w : World} {A : Option Addr} {n : Nat} {xs : List S112} (h : Kd.C k112 w A n xs) (i : Int) (h0 : 0 ≤ i) (h1 : i < n) : ∃ ad ,A = some ad ∧ w.cell? (ad.add (i.toNat * 2)) = some (.int .i64 (rd_T112 xs i).f0) ∧ w.cell? ⟨(ad.add (i.toNat * 2)).block,(ad.add (i.toNat * 2)).off + 1,none⟩ = some (.int .i64 (rd_T112 xs i).f1):=by
  obtain ⟨ad,c,e,_,hK,hc0⟩:=Kd.C_get h z112 i h0 h1
  have hc : ∀ j u,c[j]? = some u → w.cell? (ad.add (i.toNat * 2 + j)) = some u:=hc0
  obtain rfl:=k112_open hK
  exact ⟨ad,e,hc 0 _ rfl,by rw [← add_field _ _ 1 (by omega)];exact hc 1 _ rfl⟩
structure S74 where
  f0 : Int
  f1 : Int
def z74 : S74:=⟨(0 : Int),(0 : Int)⟩
def k74 : Kd S74:=Kd.iso (Kd.pair (Kd.int .i64) (Kd.int .i64)) (fun x : S74=>(x.f0,x.f1))
theorem k74_open {w : World} {x : S74} {cs : List Value} (h : k74.K w x cs) : cs = [.int .i64 x.f0,.int .i64 x.f1]:=by
  obtain ⟨_,_,rfl,rfl,rfl⟩:=h
  exact rfl
theorem k74_openM {w : World} {base : Nat} {ok : Nat → Prop} {x : S74} {cs : List Value} (h : k74.M w base ok x cs) : cs = [.int .i64 x.f0,.int .i64 x.f1]:=by
  obtain ⟨_,_,rfl,rfl,rfl⟩:=h
  exact rfl
theorem k74_mkM (w : World) (base : Nat) (ok : Nat → Prop) (x : S74)  : k74.M w base ok x [.int .i64 x.f0,.int .i64 x.f1]:=⟨[.int .i64 x.f0],[.int .i64 x.f1],rfl,rfl,rfl⟩
def rd_T74 (xs : List S74) (i : Int) : S74:=xs.getD i.toNat z74
theorem at_T74 {w : World} {A : Option Addr} {n : Nat} {xs : List S74} (h : Kd.C k74 w A n xs) (i : Int) (h0 : 0 ≤ i) (h1 : i < n) : ∃ ad ,A = some ad ∧ w.cell? (ad.add (i.toNat * 2)) = some (.int .i64 (rd_T74 xs i).f0) ∧ w.cell? ⟨(ad.add (i.toNat * 2)).block,(ad.add (i.toNat * 2)).off + 1,none⟩ = some (.int .i64 (rd_T74 xs i).f1):=by
  obtain ⟨ad,c,e,_,hK,hc0⟩:=Kd.C_get h z74 i h0 h1
  have hc : ∀ j u,c[j]? = some u → w.cell? (ad.add (i.toNat * 2 + j)) = some u:=hc0
  obtain rfl:=k74_open hK
  exact ⟨ad,e,hc 0 _ rfl,by rw [← add_field _ _ 1 (by omega)];exact hc 1 _ rfl⟩
structure S67 where
  f0 : (List Int)
  f1 : Int
  f2 : Int
  f3 : Int
  f4 : Int
def z67 : S67:=⟨([] : List Int),(0 : Int),(0 : Int),(0 : Int),(0 : Int)⟩
def k67 : Kd S67:=Kd.iso (Kd.pair (Kd.slice 3 (Kd.int .i64)) (Kd.pair (Kd.int .i64) (Kd.pair (Kd.int .i64) (Kd.pair (Kd.int .i64) (Kd.int .i64))))) (fun x : S67=>(x.f0,x.f1,x.f2,x.f3,x.f4))
theorem k67_open {w : World} {x : S67} {cs : List Value} (h : k67.K w x cs) : ∃ A0 c0,cs = [.slice A0 x.f0.length c0,.int .i64 x.f1,.int .i64 x.f2,.int .i64 x.f3,.int .i64 x.f4] ∧ x.f0.length ≤ c0 ∧ (Kd.int .i64).C w A0 x.f0.length x.f0:=by
  obtain ⟨_,_,rfl,⟨A0,c0,rfl,l0,g0⟩,⟨_,_,rfl,rfl,⟨_,_,rfl,rfl,⟨_,_,rfl,rfl,rfl⟩⟩⟩⟩:=h
  exact ⟨A0,c0,rfl,l0,g0⟩
theorem k67_openM {w : World} {base : Nat} {ok : Nat → Prop} {x : S67} {cs : List Value} (h : k67.M w base ok x cs) : ∃ v0,cs = [v0,.int .i64 x.f1,.int .i64 x.f2,.int .i64 x.f3,.int .i64 x.f4] ∧ (Kd.int .i64).R 3 w base ok v0 x.f0:=by
  obtain ⟨_,_,rfl,⟨v0,rfl,g0⟩,⟨_,_,rfl,rfl,⟨_,_,rfl,rfl,⟨_,_,rfl,rfl,rfl⟩⟩⟩⟩:=h
  exact ⟨v0,rfl,g0⟩
theorem k67_mkM (w : World) (base : Nat) (ok : Nat → Prop) (x : S67) {v0 : Value} (g0 : (Kd.int .i64).R 3 w base ok v0 x.f0) : k67.M w base ok x [v0,.int .i64 x.f1,.int .i64 x.f2,.int .i64 x.f3,.int .i64 x.f4]:=⟨[v0],[.int .i64 x.f1,.int .i64 x.f2,.int .i64 x.f3,.int .i64 x.f4],rfl,⟨v0,rfl,g0⟩,⟨[.int .i64 x.f1],[.int .i64 x.f2,.int .i64 x.f3,.int .i64 x.f4],rfl,rfl,⟨[.int .i64 x.f2],[.int .i64 x.f3,.int .i64 x.f4],rfl,rfl,⟨[.int .i64 x.f3],[.int .i64 x.f4],rfl,rfl,rfl⟩⟩⟩⟩
def rd_T67 (xs : List S67) (i : Int) : S67:=xs.getD i.toNat z67
theorem at_T67 {w : World} {A : Option Addr} {n : Nat} {xs : List S67} (h : Kd.C k67 w A n xs) (i : Int) (h0 : 0 ≤ i) (h1 : i < n) : ∃ ad A0 c0,A = some ad ∧ w.cell? (ad.add (i.toNat * 5)) = some (.slice A0 (rd_T67 xs i).f0.length c0) ∧ w.cell? ⟨(ad.add (i.toNat * 5)).block,(ad.add (i.toNat * 5)).off + 1,none⟩ = some (.int .i64 (rd_T67 xs i).f1) ∧ w.cell? ⟨(ad.add (i.toNat * 5)).block,(ad.add (i.toNat * 5)).off + 2,none⟩ = some (.int .i64 (rd_T67 xs i).f2) ∧ w.cell? ⟨(ad.add (i.toNat * 5)).block,(ad.add (i.toNat * 5)).off + 3,none⟩ = some (.int .i64 (rd_T67 xs i).f3) ∧ w.cell? ⟨(ad.add (i.toNat * 5)).block,(ad.add (i.toNat * 5)).off + 4,none⟩ = some (.int .i64 (rd_T67 xs i).f4) ∧ (rd_T67 xs i).f0.length ≤ c0 ∧ (Kd.int .i64).C w A0 (rd_T67 xs i).f0.length (rd_T67 xs i).f0:=by
  obtain ⟨ad,c,e,_,hK,hc0⟩:=Kd.C_get h z67 i h0 h1
  have hc : ∀ j u,c[j]? = some u → w.cell? (ad.add (i.toNat * 5 + j)) = some u:=hc0
  obtain ⟨A0,c0,rfl,l0,g0⟩:=k67_open hK
  exact ⟨ad,A0,c0,e,hc 0 _ rfl,by rw [← add_field _ _ 1 (by omega)];exact hc 1 _ rfl,by rw [← add_field _ _ 2 (by omega)];exact hc 2 _ rfl,by rw [← add_field _ _ 3 (by omega)];exact hc 3 _ rfl,by rw [← add_field _ _ 4 (by omega)];exact hc 4 _ rfl,l0,g0⟩
structure S122 where
  f0 : Int
  f1 : Int
  f2 : Int
  f3 : Int
  f4 : (List S122)
  f5 : (List S122)
def z122 : S122:=⟨(0 : Int),(0 : Int),(0 : Int),(0 : Int),([] : List S122),([] : List S122)⟩
def F122 (d : Kd S122) : Kd S122:=Kd.iso (Kd.pair (Kd.int .i64) (Kd.pair (Kd.int .i64) (Kd.pair (Kd.int .i64) (Kd.pair (Kd.int .i64) (Kd.pair (Kd.slice 122 d) (Kd.slice 122 d)))))) (fun x : S122=>(x.f0,x.f1,x.f2,x.f3,x.f4,x.f5))
theorem mono122 : Kd.Mono F122:=Kd.mono_iso _ (Kd.mono_pair (Kd.mono_const _) (Kd.mono_pair (Kd.mono_const _) (Kd.mono_pair (Kd.mono_const _) (Kd.mono_pair (Kd.mono_const _) (Kd.mono_pair (Kd.mono_slice 122 Kd.mono_id) (Kd.mono_slice 122 Kd.mono_id))))))
theorem sub122 : Kd.Sub F122 [122]:=Kd.sub_iso _ (Kd.sub_pair (Kd.sub_const _ (by decide)) (Kd.sub_pair (Kd.sub_const _ (by decide)) (Kd.sub_pair (Kd.sub_const _ (by decide)) (Kd.sub_pair (Kd.sub_const _ (by decide)) (Kd.sub_pair (Kd.sub_slice 122 (by decide) Kd.sub_id) (Kd.sub_slice 122 (by decide) Kd.sub_id))))))
theorem sz122 : ∀ n,(Kd.upto F122 6 [122] n).sz = 6:=Kd.upto_sz (fun _=>rfl)
def k122 : Kd S122:=Kd.fix F122 6 [122] sz122 (Kd.upto_E sub122)
theorem k122_open {w : World} {x : S122} {cs : List Value} (h : k122.K w x cs) : ∃ A4 c4 A5 c5,cs = [.int .i64 x.f0,.int .i64 x.f1,.int .i64 x.f2,.int .i64 x.f3,.slice A4 x.f4.length c4,.slice A5 x.f5.length c5] ∧ x.f4.length ≤ c4 ∧ k122.C w A4 x.f4.length x.f4 ∧ x.f5.length ≤ c5 ∧ k122.C w A5 x.f5.length x.f5:=by
  obtain ⟨n,h⟩:=h
  cases n with
  | zero=>exact h.elim
  | succ n =>
    obtain ⟨_,_,rfl,rfl,⟨_,_,rfl,rfl,⟨_,_,rfl,rfl,⟨_,_,rfl,rfl,⟨_,_,rfl,⟨A4,c4,rfl,l4,g4⟩,⟨A5,c5,rfl,l5,g5⟩⟩⟩⟩⟩⟩:=h
    exact ⟨A4,c4,A5,c5,rfl,l4,Kd.fix_C g4,l5,Kd.fix_C g5⟩
theorem k122_mk (w : World) (x : S122) {A4 : Option Addr} {c4 : Nat} (l4 : x.f4.length ≤ c4) (g4 : k122.C w A4 x.f4.length x.f4) {A5 : Option Addr} {c5 : Nat} (l5 : x.f5.length ≤ c5) (g5 : k122.C w A5 x.f5.length x.f5) : k122.K w x [.int .i64 x.f0,.int .i64 x.f1,.int .i64 x.f2,.int .i64 x.f3,.slice A4 x.f4.length c4,.slice A5 x.f5.length c5]:=by
  obtain ⟨n4,q4⟩:=Kd.fix_C_back mono122 g4
  obtain ⟨n5,q5⟩:=Kd.fix_C_back mono122 g5
  have r4:=Kd.upto_C_le mono122 sz122 (show n4 ≤ (max n4 n5) by omega) q4
  have r5:=Kd.upto_C_le mono122 sz122 (show n5 ≤ (max n4 n5) by omega) q5
  exact ⟨(max n4 n5) + 1,⟨[.int .i64 x.f0],[.int .i64 x.f1,.int .i64 x.f2,.int .i64 x.f3,.slice A4 x.f4.length c4,.slice A5 x.f5.length c5],rfl,rfl,⟨[.int .i64 x.f1],[.int .i64 x.f2,.int .i64 x.f3,.slice A4 x.f4.length c4,.slice A5 x.f5.length c5],rfl,rfl,⟨[.int .i64 x.f2],[.int .i64 x.f3,.slice A4 x.f4.length c4,.slice A5 x.f5.length c5],rfl,rfl,⟨[.int .i64 x.f3],[.slice A4 x.f4.length c4,.slice A5 x.f5.length c5],rfl,rfl,⟨[.slice A4 x.f4.length c4],[.slice A5 x.f5.length c5],rfl,⟨A4,c4,rfl,l4,r4⟩,⟨A5,c5,rfl,l5,r5⟩⟩⟩⟩⟩⟩⟩
def rd_T122 (xs : List S122) (i : Int) : S122:=xs.getD i.toNat z122
theorem at_T122 {w : World} {A : Option Addr} {n : Nat} {xs : List S122} (h : Kd.C k122 w A n xs) (i : Int) (h0 : 0 ≤ i) (h1 : i < n) : ∃ ad A4 c4 A5 c5,A = some ad ∧ w.cell? (ad.add (i.toNat * 6)) = some (.int .i64 (rd_T122 xs i).f0) ∧ w.cell? ⟨(ad.add (i.toNat * 6)).block,(ad.add (i.toNat * 6)).off + 1,none⟩ = some (.int .i64 (rd_T122 xs i).f1) ∧ w.cell? ⟨(ad.add (i.toNat * 6)).block,(ad.add (i.toNat * 6)).off + 2,none⟩ = some (.int .i64 (rd_T122 xs i).f2) ∧ w.cell? ⟨(ad.add (i.toNat * 6)).block,(ad.add (i.toNat * 6)).off + 3,none⟩ = some (.int .i64 (rd_T122 xs i).f3) ∧ w.cell? ⟨(ad.add (i.toNat * 6)).block,(ad.add (i.toNat * 6)).off + 4,none⟩ = some (.slice A4 (rd_T122 xs i).f4.length c4) ∧ w.cell? ⟨(ad.add (i.toNat * 6)).block,(ad.add (i.toNat * 6)).off + 5,none⟩ = some (.slice A5 (rd_T122 xs i).f5.length c5) ∧ (rd_T122 xs i).f4.length ≤ c4 ∧ k122.C w A4 (rd_T122 xs i).f4.length (rd_T122 xs i).f4 ∧ (rd_T122 xs i).f5.length ≤ c5 ∧ k122.C w A5 (rd_T122 xs i).f5.length (rd_T122 xs i).f5:=by
  obtain ⟨ad,c,e,_,hK,hc0⟩:=Kd.C_get h z122 i h0 h1
  have hc : ∀ j u,c[j]? = some u → w.cell? (ad.add (i.toNat * 6 + j)) = some u:=hc0
  obtain ⟨A4,c4,A5,c5,rfl,l4,g4,l5,g5⟩:=k122_open hK
  exact ⟨ad,A4,c4,A5,c5,e,hc 0 _ rfl,by rw [← add_field _ _ 1 (by omega)];exact hc 1 _ rfl,by rw [← add_field _ _ 2 (by omega)];exact hc 2 _ rfl,by rw [← add_field _ _ 3 (by omega)];exact hc 3 _ rfl,by rw [← add_field _ _ 4 (by omega)];exact hc 4 _ rfl,by rw [← add_field _ _ 5 (by omega)];exact hc 5 _ rfl,l4,g4,l5,g5⟩
def rd_L12 (xs : List (List S122)) (i : Int) : (List S122):=xs.getD i.toNat ([] : List S122)
structure S117 where
  f0 : (List Int)
  f1 : (List S122)
  f2 : Int
  f3 : Int
  f4 : Int
def z117 : S117:=⟨([] : List Int),([] : List S122),(0 : Int),(0 : Int),(0 : Int)⟩
def k117 : Kd S117:=Kd.iso (Kd.pair (Kd.slice 3 (Kd.int .i64)) (Kd.pair (Kd.slice 122 k122) (Kd.pair (Kd.int .i64) (Kd.pair (Kd.int .i64) (Kd.int .i64))))) (fun x : S117=>(x.f0,x.f1,x.f2,x.f3,x.f4))
theorem k117_open {w : World} {x : S117} {cs : List Value} (h : k117.K w x cs) : ∃ A0 c0 A1 c1,cs = [.slice A0 x.f0.length c0,.slice A1 x.f1.length c1,.int .i64 x.f2,.int .i64 x.f3,.int .i64 x.f4] ∧ x.f0.length ≤ c0 ∧ (Kd.int .i64).C w A0 x.f0.length x.f0 ∧ x.f1.length ≤ c1 ∧ k122.C w A1 x.f1.length x.f1:=by
  obtain ⟨_,_,rfl,⟨A0,c0,rfl,l0,g0⟩,⟨_,_,rfl,⟨A1,c1,rfl,l1,g1⟩,⟨_,_,rfl,rfl,⟨_,_,rfl,rfl,rfl⟩⟩⟩⟩:=h
  exact ⟨A0,c0,A1,c1,rfl,l0,g0,l1,g1⟩
theorem k117_mk (w : World) (x : S117) {A0 : Option Addr} {c0 : Nat} (l0 : x.f0.length ≤ c0) (g0 : (Kd.int .i64).C w A0 x.f0.length x.f0) {A1 : Option Addr} {c1 : Nat} (l1 : x.f1.length ≤ c1) (g1 : k122.C w A1 x.f1.length x.f1) : k117.K w x [.slice A0 x.f0.length c0,.slice A1 x.f1.length c1,.int .i64 x.f2,.int .i64 x.f3,.int .i64 x.f4]:=⟨[.slice A0 x.f0.length c0],[.slice A1 x.f1.length c1,.int .i64 x.f2,.int .i64 x.f3,.int .i64 x.f4],rfl,⟨A0,c0,rfl,l0,g0⟩,⟨[.slice A1 x.f1.length c1],[.int .i64 x.f2,.int .i64 x.f3,.int .i64 x.f4],rfl,⟨A1,c1,rfl,l1,g1⟩,⟨[.int .i64 x.f2],[.int .i64 x.f3,.int .i64 x.f4],rfl,rfl,⟨[.int .i64 x.f3],[.int .i64 x.f4],rfl,rfl,rfl⟩⟩⟩⟩
def rd_T117 (xs : List S117) (i : Int) : S117:=xs.getD i.toNat z117
theorem at_T117 {w : World} {A : Option Addr} {n : Nat} {xs : List S117} (h : Kd.C k117 w A n xs) (i : Int) (h0 : 0 ≤ i) (h1 : i < n) : ∃ ad A0 c0 A1 c1,A = some ad ∧ w.cell? (ad.add (i.toNat * 5)) = some (.slice A0 (rd_T117 xs i).f0.length c0) ∧ w.cell? ⟨(ad.add (i.toNat * 5)).block,(ad.add (i.toNat * 5)).off + 1,none⟩ = some (.slice A1 (rd_T117 xs i).f1.length c1) ∧ w.cell? ⟨(ad.add (i.toNat * 5)).block,(ad.add (i.toNat * 5)).off + 2,none⟩ = some (.int .i64 (rd_T117 xs i).f2) ∧ w.cell? ⟨(ad.add (i.toNat * 5)).block,(ad.add (i.toNat * 5)).off + 3,none⟩ = some (.int .i64 (rd_T117 xs i).f3) ∧ w.cell? ⟨(ad.add (i.toNat * 5)).block,(ad.add (i.toNat * 5)).off + 4,none⟩ = some (.int .i64 (rd_T117 xs i).f4) ∧ (rd_T117 xs i).f0.length ≤ c0 ∧ (Kd.int .i64).C w A0 (rd_T117 xs i).f0.length (rd_T117 xs i).f0 ∧ (rd_T117 xs i).f1.length ≤ c1 ∧ k122.C w A1 (rd_T117 xs i).f1.length (rd_T117 xs i).f1:=by
  obtain ⟨ad,c,e,_,hK,hc0⟩:=Kd.C_get h z117 i h0 h1
  have hc : ∀ j u,c[j]? = some u → w.cell? (ad.add (i.toNat * 5 + j)) = some u:=hc0
  obtain ⟨A0,c0,A1,c1,rfl,l0,g0,l1,g1⟩:=k117_open hK
  exact ⟨ad,A0,c0,A1,c1,e,hc 0 _ rfl,by rw [← add_field _ _ 1 (by omega)];exact hc 1 _ rfl,by rw [← add_field _ _ 2 (by omega)];exact hc 2 _ rfl,by rw [← add_field _ _ 3 (by omega)];exact hc 3 _ rfl,by rw [← add_field _ _ 4 (by omega)];exact hc 4 _ rfl,l0,g0,l1,g1⟩
structure S104 where
  f0 : Int
  f1 : Int
  f2 : Int
  f3 : Int
  f4 : (List S104)
  f5 : (List S104)
def z104 : S104:=⟨(0 : Int),(0 : Int),(0 : Int),(0 : Int),([] : List S104),([] : List S104)⟩
def F104 (d : Kd S104) : Kd S104:=Kd.iso (Kd.pair (Kd.int .i64) (Kd.pair (Kd.int .i64) (Kd.pair (Kd.int .i64) (Kd.pair (Kd.int .i64) (Kd.pair (Kd.slice 104 d) (Kd.slice 104 d)))))) (fun x : S104=>(x.f0,x.f1,x.f2,x.f3,x.f4,x.f5))
theorem mono104 : Kd.Mono F104:=Kd.mono_iso _ (Kd.mono_pair (Kd.mono_const _) (Kd.mono_pair (Kd.mono_const _) (Kd.mono_pair (Kd.mono_const _) (Kd.mono_pair (Kd.mono_const _) (Kd.mono_pair (Kd.mono_slice 104 Kd.mono_id) (Kd.mono_slice 104 Kd.mono_id))))))
theorem sub104 : Kd.Sub F104 [104]:=Kd.sub_iso _ (Kd.sub_pair (Kd.sub_const _ (by decide)) (Kd.sub_pair (Kd.sub_const _ (by decide)) (Kd.sub_pair (Kd.sub_const _ (by decide)) (Kd.sub_pair (Kd.sub_const _ (by decide)) (Kd.sub_pair (Kd.sub_slice 104 (by decide) Kd.sub_id) (Kd.sub_slice 104 (by decide) Kd.sub_id))))))
theorem sz104 : ∀ n,(Kd.upto F104 6 [104] n).sz = 6:=Kd.upto_sz (fun _=>rfl)
def k104 : Kd S104:=Kd.fix F104 6 [104] sz104 (Kd.upto_E sub104)
theorem k104_open {w : World} {x : S104} {cs : List Value} (h : k104.K w x cs) : ∃ A4 c4 A5 c5,cs = [.int .i64 x.f0,.int .i64 x.f1,.int .i64 x.f2,.int .i64 x.f3,.slice A4 x.f4.length c4,.slice A5 x.f5.length c5] ∧ x.f4.length ≤ c4 ∧ k104.C w A4 x.f4.length x.f4 ∧ x.f5.length ≤ c5 ∧ k104.C w A5 x.f5.length x.f5:=by
  obtain ⟨n,h⟩:=h
  cases n with
  | zero=>exact h.elim
  | succ n =>
    obtain ⟨_,_,rfl,rfl,⟨_,_,rfl,rfl,⟨_,_,rfl,rfl,⟨_,_,rfl,rfl,⟨_,_,rfl,⟨A4,c4,rfl,l4,g4⟩,⟨A5,c5,rfl,l5,g5⟩⟩⟩⟩⟩⟩:=h
    exact ⟨A4,c4,A5,c5,rfl,l4,Kd.fix_C g4,l5,Kd.fix_C g5⟩
theorem k104_openM {w : World} {base : Nat} {ok : Nat → Prop} {x : S104} {cs : List Value} (h : k104.M w base ok x cs) : ∃ v4 v5,cs = [.int .i64 x.f0,.int .i64 x.f1,.int .i64 x.f2,.int .i64 x.f3,v4,v5] ∧ k104.R 104 w base ok v4 x.f4 ∧ k104.R 104 w base ok v5 x.f5:=by
  obtain ⟨n,h⟩:=h
  cases n with
  | zero=>exact h.elim
  | succ n =>
    obtain ⟨_,_,rfl,rfl,⟨_,_,rfl,rfl,⟨_,_,rfl,rfl,⟨_,_,rfl,rfl,⟨_,_,rfl,⟨v4,rfl,g4⟩,⟨v5,rfl,g5⟩⟩⟩⟩⟩⟩:=h
    exact ⟨v4,v5,rfl,Kd.fix_R g4,Kd.fix_R g5⟩
theorem k104_mkM (w : World) (base : Nat) (ok : Nat → Prop) (x : S104) {v4 : Value} (g4 : k104.R 104 w base ok v4 x.f4) {v5 : Value} (g5 : k104.R 104 w base ok v5 x.f5) : k104.M w base ok x [.int .i64 x.f0,.int .i64 x.f1,.int .i64 x.f2,.int .i64 x.f3,v4,v5]:=by
  obtain ⟨n4,q4⟩:=Kd.fix_R_back mono104 g4
  obtain ⟨n5,q5⟩:=Kd.fix_R_back mono104 g5
  have r4:=Kd.upto_R_le mono104 sz104 (show n4 ≤ (max n4 n5) by omega) q4
  have r5:=Kd.upto_R_le mono104 sz104 (show n5 ≤ (max n4 n5) by omega) q5
  exact ⟨(max n4 n5) + 1,⟨[.int .i64 x.f0],[.int .i64 x.f1,.int .i64 x.f2,.int .i64 x.f3,v4,v5],rfl,rfl,⟨[.int .i64 x.f1],[.int .i64 x.f2,.int .i64 x.f3,v4,v5],rfl,rfl,⟨[.int .i64 x.f2],[.int .i64 x.f3,v4,v5],rfl,rfl,⟨[.int .i64 x.f3],[v4,v5],rfl,rfl,⟨[v4],[v5],rfl,⟨v4,rfl,r4⟩,⟨v5,rfl,r5⟩⟩⟩⟩⟩⟩⟩
def rd_T104 (xs : List S104) (i : Int) : S104:=xs.getD i.toNat z104
theorem at_T104 {w : World} {A : Option Addr} {n : Nat} {xs : List S104} (h : Kd.C k104 w A n xs) (i : Int) (h0 : 0 ≤ i) (h1 : i < n) : ∃ ad A4 c4 A5 c5,A = some ad ∧ w.cell? (ad.add (i.toNat * 6)) = some (.int .i64 (rd_T104 xs i).f0) ∧ w.cell? ⟨(ad.add (i.toNat * 6)).block,(ad.add (i.toNat * 6)).off + 1,none⟩ = some (.int .i64 (rd_T104 xs i).f1) ∧ w.cell? ⟨(ad.add (i.toNat * 6)).block,(ad.add (i.toNat * 6)).off + 2,none⟩ = some (.int .i64 (rd_T104 xs i).f2) ∧ w.cell? ⟨(ad.add (i.toNat * 6)).block,(ad.add (i.toNat * 6)).off + 3,none⟩ = some (.int .i64 (rd_T104 xs i).f3) ∧ w.cell? ⟨(ad.add (i.toNat * 6)).block,(ad.add (i.toNat * 6)).off + 4,none⟩ = some (.slice A4 (rd_T104 xs i).f4.length c4) ∧ w.cell? ⟨(ad.add (i.toNat * 6)).block,(ad.add (i.toNat * 6)).off + 5,none⟩ = some (.slice A5 (rd_T104 xs i).f5.length c5) ∧ (rd_T104 xs i).f4.length ≤ c4 ∧ k104.C w A4 (rd_T104 xs i).f4.length (rd_T104 xs i).f4 ∧ (rd_T104 xs i).f5.length ≤ c5 ∧ k104.C w A5 (rd_T104 xs i).f5.length (rd_T104 xs i).f5:=by
  obtain ⟨ad,c,e,_,hK,hc0⟩:=Kd.C_get h z104 i h0 h1
  have hc : ∀ j u,c[j]? = some u → w.cell? (ad.add (i.toNat * 6 + j)) = some u:=hc0
  obtain ⟨A4,c4,A5,c5,rfl,l4,g4,l5,g5⟩:=k104_open hK
  exact ⟨ad,A4,c4,A5,c5,e,hc 0 _ rfl,by rw [← add_field _ _ 1 (by omega)];exact hc 1 _ rfl,by rw [← add_field _ _ 2 (by omega)];exact hc 2 _ rfl,by rw [← add_field _ _ 3 (by omega)];exact hc 3 _ rfl,by rw [← add_field _ _ 4 (by omega)];exact hc 4 _ rfl,by rw [← add_field _ _ 5 (by omega)];exact hc 5 _ rfl,l4,g4,l5,g5⟩
def rd_L15 (xs : List (List S104)) (i : Int) : (List S104):=xs.getD i.toNat ([] : List S104)
structure S84 where
  f0 : (List Int)
  f1 : (List S104)
  f2 : Int
  f3 : Int
  f4 : Int
def z84 : S84:=⟨([] : List Int),([] : List S104),(0 : Int),(0 : Int),(0 : Int)⟩
def k84 : Kd S84:=Kd.iso (Kd.pair (Kd.slice 3 (Kd.int .i64)) (Kd.pair (Kd.slice 104 k104) (Kd.pair (Kd.int .i64) (Kd.pair (Kd.int .i64) (Kd.int .i64))))) (fun x : S84=>(x.f0,x.f1,x.f2,x.f3,x.f4))
theorem k84_open {w : World} {x : S84} {cs : List Value} (h : k84.K w x cs) : ∃ A0 c0 A1 c1,cs = [.slice A0 x.f0.length c0,.slice A1 x.f1.length c1,.int .i64 x.f2,.int .i64 x.f3,.int .i64 x.f4] ∧ x.f0.length ≤ c0 ∧ (Kd.int .i64).C w A0 x.f0.length x.f0 ∧ x.f1.length ≤ c1 ∧ k104.C w A1 x.f1.length x.f1:=by
  obtain ⟨_,_,rfl,⟨A0,c0,rfl,l0,g0⟩,⟨_,_,rfl,⟨A1,c1,rfl,l1,g1⟩,⟨_,_,rfl,rfl,⟨_,_,rfl,rfl,rfl⟩⟩⟩⟩:=h
  exact ⟨A0,c0,A1,c1,rfl,l0,g0,l1,g1⟩
theorem k84_openM {w : World} {base : Nat} {ok : Nat → Prop} {x : S84} {cs : List Value} (h : k84.M w base ok x cs) : ∃ v0 v1,cs = [v0,v1,.int .i64 x.f2,.int .i64 x.f3,.int .i64 x.f4] ∧ (Kd.int .i64).R 3 w base ok v0 x.f0 ∧ k104.R 104 w base ok v1 x.f1:=by
  obtain ⟨_,_,rfl,⟨v0,rfl,g0⟩,⟨_,_,rfl,⟨v1,rfl,g1⟩,⟨_,_,rfl,rfl,⟨_,_,rfl,rfl,rfl⟩⟩⟩⟩:=h
  exact ⟨v0,v1,rfl,g0,g1⟩
theorem k84_mkM (w : World) (base : Nat) (ok : Nat → Prop) (x : S84) {v0 : Value} (g0 : (Kd.int .i64).R 3 w base ok v0 x.f0) {v1 : Value} (g1 : k104.R 104 w base ok v1 x.f1) : k84.M w base ok x [v0,v1,.int .i64 x.f2,.int .i64 x.f3,.int .i64 x.f4]:=⟨[v0],[v1,.int .i64 x.f2,.int .i64 x.f3,.int .i64 x.f4],rfl,⟨v0,rfl,g0⟩,⟨[v1],[.int .i64 x.f2,.int .i64 x.f3,.int .i64 x.f4],rfl,⟨v1,rfl,g1⟩,⟨[.int .i64 x.f2],[.int .i64 x.f3,.int .i64 x.f4],rfl,rfl,⟨[.int .i64 x.f3],[.int .i64 x.f4],rfl,rfl,rfl⟩⟩⟩⟩
def rd_T84 (xs : List S84) (i : Int) : S84:=xs.getD i.toNat z84
theorem at_T84 {w : World} {A : Option Addr} {n : Nat} {xs : List S84} (h : Kd.C k84 w A n xs) (i : Int) (h0 : 0 ≤ i) (h1 : i < n) : ∃ ad A0 c0 A1 c1,A = some ad ∧ w.cell? (ad.add (i.toNat * 5)) = some (.slice A0 (rd_T84 xs i).f0.length c0) ∧ w.cell? ⟨(ad.add (i.toNat * 5)).block,(ad.add (i.toNat * 5)).off + 1,none⟩ = some (.slice A1 (rd_T84 xs i).f1.length c1) ∧ w.cell? ⟨(ad.add (i.toNat * 5)).block,(ad.add (i.toNat * 5)).off + 2,none⟩ = some (.int .i64 (rd_T84 xs i).f2) ∧ w.cell? ⟨(ad.add (i.toNat * 5)).block,(ad.add (i.toNat * 5)).off + 3,none⟩ = some (.int .i64 (rd_T84 xs i).f3) ∧ w.cell? ⟨(ad.add (i.toNat * 5)).block,(ad.add (i.toNat * 5)).off + 4,none⟩ = some (.int .i64 (rd_T84 xs i).f4) ∧ (rd_T84 xs i).f0.length ≤ c0 ∧ (Kd.int .i64).C w A0 (rd_T84 xs i).f0.length (rd_T84 xs i).f0 ∧ (rd_T84 xs i).f1.length ≤ c1 ∧ k104.C w A1 (rd_T84 xs i).f1.length (rd_T84 xs i).f1:=by
  obtain ⟨ad,c,e,_,hK,hc0⟩:=Kd.C_get h z84 i h0 h1
  have hc : ∀ j u,c[j]? = some u → w.cell? (ad.add (i.toNat * 5 + j)) = some u:=hc0
  obtain ⟨A0,c0,A1,c1,rfl,l0,g0,l1,g1⟩:=k84_open hK
  exact ⟨ad,A0,c0,A1,c1,e,hc 0 _ rfl,by rw [← add_field _ _ 1 (by omega)];exact hc 1 _ rfl,by rw [← add_field _ _ 2 (by omega)];exact hc 2 _ rfl,by rw [← add_field _ _ 3 (by omega)];exact hc 3 _ rfl,by rw [← add_field _ _ 4 (by omega)];exact hc 4 _ rfl,l0,g0,l1,g1⟩
structure S7 where
  f0 : Int
  f1 : Int
  f2 : Bool
  f3 : Int
def k7 : Kd S7:=Kd.iso (Kd.pair (Kd.int .i64) (Kd.pair (Kd.int .i64) (Kd.pair Kd.bool (Kd.int .u8)))) (fun x : S7=>(x.f0,x.f1,x.f2,x.f3))
structure S8 where
  f0 : Int
  f1 : Int
  f2 : Bool
  f3 : Int
def k8 : Kd S8:=Kd.iso (Kd.pair (Kd.int .i64) (Kd.pair (Kd.int .i64) (Kd.pair Kd.bool (Kd.int .u8)))) (fun x : S8=>(x.f0,x.f1,x.f2,x.f3))
structure S27 where
  f0 : (List S109)
  f1 : (List Int)
  f2 : (List Int)
  f3 : (List (List Int))
  f4 : (List (List Int))
  f5 : (List Int)
  f6 : Int
  f7 : Int
  f8 : (List S112)
  f9 : (List Int)
  f10 : (List Int)
def k27 : Kd S27:=Kd.iso (Kd.pair (Kd.slice 109 k109) (Kd.pair (Kd.slice 3 (Kd.int .i64)) (Kd.pair (Kd.slice 3 (Kd.int .i64)) (Kd.pair (Kd.slice 23 (Kd.slice 3 (Kd.int .i64))) (Kd.pair (Kd.slice 23 (Kd.slice 3 (Kd.int .i64))) (Kd.pair (Kd.slice 3 (Kd.int .i64)) (Kd.pair (Kd.int .i64) (Kd.pair (Kd.int .i64) (Kd.pair (Kd.slice 112 k112) (Kd.pair (Kd.slice 3 (Kd.int .i64)) (Kd.slice 3 (Kd.int .i64)))))))))))) (fun x : S27=>(x.f0,x.f1,x.f2,x.f3,x.f4,x.f5,x.f6,x.f7,x.f8,x.f9,x.f10))
theorem k27_open {w : World} {x : S27} {cs : List Value} (h : k27.K w x cs) : ∃ A0 c0 A1 c1 A2 c2 A3 c3 A4 c4 A5 c5 A8 c8 A9 c9 A10 c10,cs = [.slice A0 x.f0.length c0,.slice A1 x.f1.length c1,.slice A2 x.f2.length c2,.slice A3 x.f3.length c3,.slice A4 x.f4.length c4,.slice A5 x.f5.length c5,.int .i64 x.f6,.int .i64 x.f7,.slice A8 x.f8.length c8,.slice A9 x.f9.length c9,.slice A10 x.f10.length c10] ∧ x.f0.length ≤ c0 ∧ k109.C w A0 x.f0.length x.f0 ∧ x.f1.length ≤ c1 ∧ (Kd.int .i64).C w A1 x.f1.length x.f1 ∧ x.f2.length ≤ c2 ∧ (Kd.int .i64).C w A2 x.f2.length x.f2 ∧ x.f3.length ≤ c3 ∧ (Kd.slice 3 (Kd.int .i64)).C w A3 x.f3.length x.f3 ∧ x.f4.length ≤ c4 ∧ (Kd.slice 3 (Kd.int .i64)).C w A4 x.f4.length x.f4 ∧ x.f5.length ≤ c5 ∧ (Kd.int .i64).C w A5 x.f5.length x.f5 ∧ x.f8.length ≤ c8 ∧ k112.C w A8 x.f8.length x.f8 ∧ x.f9.length ≤ c9 ∧ (Kd.int .i64).C w A9 x.f9.length x.f9 ∧ x.f10.length ≤ c10 ∧ (Kd.int .i64).C w A10 x.f10.length x.f10:=by
  obtain ⟨_,_,rfl,⟨A0,c0,rfl,l0,g0⟩,⟨_,_,rfl,⟨A1,c1,rfl,l1,g1⟩,⟨_,_,rfl,⟨A2,c2,rfl,l2,g2⟩,⟨_,_,rfl,⟨A3,c3,rfl,l3,g3⟩,⟨_,_,rfl,⟨A4,c4,rfl,l4,g4⟩,⟨_,_,rfl,⟨A5,c5,rfl,l5,g5⟩,⟨_,_,rfl,rfl,⟨_,_,rfl,rfl,⟨_,_,rfl,⟨A8,c8,rfl,l8,g8⟩,⟨_,_,rfl,⟨A9,c9,rfl,l9,g9⟩,⟨A10,c10,rfl,l10,g10⟩⟩⟩⟩⟩⟩⟩⟩⟩⟩⟩:=h
  exact ⟨A0,c0,A1,c1,A2,c2,A3,c3,A4,c4,A5,c5,A8,c8,A9,c9,A10,c10,rfl,l0,g0,l1,g1,l2,g2,l3,g3,l4,g4,l5,g5,l8,g8,l9,g9,l10,g10⟩
theorem k27_mk (w : World) (x : S27) {A0 : Option Addr} {c0 : Nat} (l0 : x.f0.length ≤ c0) (g0 : k109.C w A0 x.f0.length x.f0) {A1 : Option Addr} {c1 : Nat} (l1 : x.f1.length ≤ c1) (g1 : (Kd.int .i64).C w A1 x.f1.length x.f1) {A2 : Option Addr} {c2 : Nat} (l2 : x.f2.length ≤ c2) (g2 : (Kd.int .i64).C w A2 x.f2.length x.f2) {A3 : Option Addr} {c3 : Nat} (l3 : x.f3.length ≤ c3) (g3 : (Kd.slice 3 (Kd.int .i64)).C w A3 x.f3.length x.f3) {A4 : Option Addr} {c4 : Nat} (l4 : x.f4.length ≤ c4) (g4 : (Kd.slice 3 (Kd.int .i64)).C w A4 x.f4.length x.f4) {A5 : Option Addr} {c5 : Nat} (l5 : x.f5.length ≤ c5) (g5 : (Kd.int .i64).C w A5 x.f5.length x.f5) {A8 : Option Addr} {c8 : Nat} (l8 : x.f8.length ≤ c8) (g8 : k112.C w A8 x.f8.length x.f8) {A9 : Option Addr} {c9 : Nat} (l9 : x.f9.length ≤ c9) (g9 : (Kd.int .i64).C w A9 x.f9.length x.f9) {A10 : Option Addr} {c10 : Nat} (l10 : x.f10.length ≤ c10) (g10 : (Kd.int .i64).C w A10 x.f10.length x.f10) : k27.K w x [.slice A0 x.f0.length c0,.slice A1 x.f1.length c1,.slice A2 x.f2.length c2,.slice A3 x.f3.length c3,.slice A4 x.f4.length c4,.slice A5 x.f5.length c5,.int .i64 x.f6,.int .i64 x.f7,.slice A8 x.f8.length c8,.slice A9 x.f9.length c9,.slice A10 x.f10.length c10]:=⟨[.slice A0 x.f0.length c0],[.slice A1 x.f1.length c1,.slice A2 x.f2.length c2,.slice A3 x.f3.length c3,.slice A4 x.f4.length c4,.slice A5 x.f5.length c5,.int .i64 x.f6,.int .i64 x.f7,.slice A8 x.f8.length c8,.slice A9 x.f9.length c9,.slice A10 x.f10.length c10],rfl,⟨A0,c0,rfl,l0,g0⟩,⟨[.slice A1 x.f1.length c1],[.slice A2 x.f2.length c2,.slice A3 x.f3.length c3,.slice A4 x.f4.length c4,.slice A5 x.f5.length c5,.int .i64 x.f6,.int .i64 x.f7,.slice A8 x.f8.length c8,.slice A9 x.f9.length c9,.slice A10 x.f10.length c10],rfl,⟨A1,c1,rfl,l1,g1⟩,⟨[.slice A2 x.f2.length c2],[.slice A3 x.f3.length c3,.slice A4 x.f4.length c4,.slice A5 x.f5.length c5,.int .i64 x.f6,.int .i64 x.f7,.slice A8 x.f8.length c8,.slice A9 x.f9.length c9,.slice A10 x.f10.length c10],rfl,⟨A2,c2,rfl,l2,g2⟩,⟨[.slice A3 x.f3.length c3],[.slice A4 x.f4.length c4,.slice A5 x.f5.length c5,.int .i64 x.f6,.int .i64 x.f7,.slice A8 x.f8.length c8,.slice A9 x.f9.length c9,.slice A10 x.f10.length c10],rfl,⟨A3,c3,rfl,l3,g3⟩,⟨[.slice A4 x.f4.length c4],[.slice A5 x.f5.length c5,.int .i64 x.f6,.int .i64 x.f7,.slice A8 x.f8.length c8,.slice A9 x.f9.length c9,.slice A10 x.f10.length c10],rfl,⟨A4,c4,rfl,l4,g4⟩,⟨[.slice A5 x.f5.length c5],[.int .i64 x.f6,.int .i64 x.f7,.slice A8 x.f8.length c8,.slice A9 x.f9.length c9,.slice A10 x.f10.length c10],rfl,⟨A5,c5,rfl,l5,g5⟩,⟨[.int .i64 x.f6],[.int .i64 x.f7,.slice A8 x.f8.length c8,.slice A9 x.f9.length c9,.slice A10 x.f10.length c10],rfl,rfl,⟨[.int .i64 x.f7],[.slice A8 x.f8.length c8,.slice A9 x.f9.length c9,.slice A10 x.f10.length c10],rfl,rfl,⟨[.slice A8 x.f8.length c8],[.slice A9 x.f9.length c9,.slice A10 x.f10.length c10],rfl,⟨A8,c8,rfl,l8,g8⟩,⟨[.slice A9 x.f9.length c9],[.slice A10 x.f10.length c10],rfl,⟨A9,c9,rfl,l9,g9⟩,⟨A10,c10,rfl,l10,g10⟩⟩⟩⟩⟩⟩⟩⟩⟩⟩⟩
structure S38 where
  f0 : (List S117)
  f1 : (List Int)
  f2 : (List Int)
  f3 : (List (List Int))
  f4 : (List S112)
def k38 : Kd S38:=Kd.iso (Kd.pair (Kd.slice 117 k117) (Kd.pair (Kd.slice 3 (Kd.int .i64)) (Kd.pair (Kd.slice 3 (Kd.int .i64)) (Kd.pair (Kd.slice 23 (Kd.slice 3 (Kd.int .i64))) (Kd.slice 112 k112))))) (fun x : S38=>(x.f0,x.f1,x.f2,x.f3,x.f4))
theorem k38_open {w : World} {x : S38} {cs : List Value} (h : k38.K w x cs) : ∃ A0 c0 A1 c1 A2 c2 A3 c3 A4 c4,cs = [.slice A0 x.f0.length c0,.slice A1 x.f1.length c1,.slice A2 x.f2.length c2,.slice A3 x.f3.length c3,.slice A4 x.f4.length c4] ∧ x.f0.length ≤ c0 ∧ k117.C w A0 x.f0.length x.f0 ∧ x.f1.length ≤ c1 ∧ (Kd.int .i64).C w A1 x.f1.length x.f1 ∧ x.f2.length ≤ c2 ∧ (Kd.int .i64).C w A2 x.f2.length x.f2 ∧ x.f3.length ≤ c3 ∧ (Kd.slice 3 (Kd.int .i64)).C w A3 x.f3.length x.f3 ∧ x.f4.length ≤ c4 ∧ k112.C w A4 x.f4.length x.f4:=by
  obtain ⟨_,_,rfl,⟨A0,c0,rfl,l0,g0⟩,⟨_,_,rfl,⟨A1,c1,rfl,l1,g1⟩,⟨_,_,rfl,⟨A2,c2,rfl,l2,g2⟩,⟨_,_,rfl,⟨A3,c3,rfl,l3,g3⟩,⟨A4,c4,rfl,l4,g4⟩⟩⟩⟩⟩:=h
  exact ⟨A0,c0,A1,c1,A2,c2,A3,c3,A4,c4,rfl,l0,g0,l1,g1,l2,g2,l3,g3,l4,g4⟩
theorem k38_mk (w : World) (x : S38) {A0 : Option Addr} {c0 : Nat} (l0 : x.f0.length ≤ c0) (g0 : k117.C w A0 x.f0.length x.f0) {A1 : Option Addr} {c1 : Nat} (l1 : x.f1.length ≤ c1) (g1 : (Kd.int .i64).C w A1 x.f1.length x.f1) {A2 : Option Addr} {c2 : Nat} (l2 : x.f2.length ≤ c2) (g2 : (Kd.int .i64).C w A2 x.f2.length x.f2) {A3 : Option Addr} {c3 : Nat} (l3 : x.f3.length ≤ c3) (g3 : (Kd.slice 3 (Kd.int .i64)).C w A3 x.f3.length x.f3) {A4 : Option Addr} {c4 : Nat} (l4 : x.f4.length ≤ c4) (g4 : k112.C w A4 x.f4.length x.f4) : k38.K w x [.slice A0 x.f0.length c0,.slice A1 x.f1.length c1,.slice A2 x.f2.length c2,.slice A3 x.f3.length c3,.slice A4 x.f4.length c4]:=⟨[.slice A0 x.f0.length c0],[.slice A1 x.f1.length c1,.slice A2 x.f2.length c2,.slice A3 x.f3.length c3,.slice A4 x.f4.length c4],rfl,⟨A0,c0,rfl,l0,g0⟩,⟨[.slice A1 x.f1.length c1],[.slice A2 x.f2.length c2,.slice A3 x.f3.length c3,.slice A4 x.f4.length c4],rfl,⟨A1,c1,rfl,l1,g1⟩,⟨[.slice A2 x.f2.length c2],[.slice A3 x.f3.length c3,.slice A4 x.f4.length c4],rfl,⟨A2,c2,rfl,l2,g2⟩,⟨[.slice A3 x.f3.length c3],[.slice A4 x.f4.length c4],rfl,⟨A3,c3,rfl,l3,g3⟩,⟨A4,c4,rfl,l4,g4⟩⟩⟩⟩⟩
end Go.Proofs.Ythbflhimmmfonaa.P

namespace Go.Proofs.Ythbflhimmmfonaa.P
open Go.RowKit Go.Proofs.YthbflhimmmfonaaW.PrintWords Go.Proofs.YthbflhimmmfonaaW.PrintLast Go.Proofs.YthbflhimmmfonaaW.PrintMore
attribute [local go_sem] max2_int min2_int max_two min_two max_three min_three max_four min_four
set_option linter.unusedVariables false
set_option linter.unusedSimpArgs false
theorem fr1_ {W : World} {a : Addr} {x : Option Value} {n b j : Nat} (hn : n ≠ b) (v : Value) (h : W.cell? a = x) (e : a.block = n:=by first | rfl | exact add_block _ _) : (W.setCell ⟨b,j,none⟩ v).cell? a = x:=(cell_far (p:=⟨b,j,none⟩) (show a.block ≠ b from e ▸ hn) v).trans h
theorem fr5_ {W : World} {a : Addr} {x : Option Value} {n b : Nat} (hn : n ≠ b) (v0 v1 v2 v3 v4 : Value) (h : W.cell? a = x) (e : a.block = n:=by first | rfl | exact add_block _ _) : (((((W.setCell ⟨b,0,none⟩ v0).setCell ⟨b,1,none⟩ v1).setCell ⟨b,2,none⟩ v2).setCell ⟨b,3,none⟩ v3).setCell ⟨b,4,none⟩ v4).cell? a = x:=(fr1_ (j:=4) hn v4 (fr1_ (j:=3) hn v3 (fr1_ (j:=2) hn v2 (fr1_ (j:=1) hn v1 (fr1_ (j:=0) hn v0 h e) e) e) e) e)
theorem goesM_ {P : Program} {ops : Array Oper} {Q : Exit → Act → World → Prop} {rest : List Oper} {oi : Oper} {a : Act} {w : World} (N : Option Tmp) {f : FuncId} {fn : Func} {as_ : Array Operand} {ts : Array TypeId} (hf : P.funcs[f]? = some fn) (args : Array Value) (h : Calls P f args w fun e w' => ∃ v, e = .returned v ∧ wpList P ops Q rest (a.put N v) w') (hd : oi.dst = N := by exact rfl) (hg : oi.guard = none := by exact rfl) (hname : (fn.name == "runtime.NumGoroutine") = false := by kernel_rfl) (hb : fn.body.isSome = true := by exact rfl) (hop : oi.op = .call { callee := .value (.func f), args := as_, argTypes := ts } := by exact rfl) (hargs : as_.map a.eval = args := by (try simp only [List.map_toArray, List.map_cons, List.map_nil]); first | done | rfl | (simp only [List.length_drop, List.length_take]; rfl)) : wpList P ops Q (oi :: rest) a w := goesL_ N hd hg hf hname hb args hop hargs h
theorem bz2_ {w : World} {g : Nat} {t : TypeId} {c0 c1 : Value} (h : Aside0 (w.heap[g]? = some (.cells #[c0,c1] t (0,0)))) : w.cell? ⟨g,0,none⟩ = some c0 ∧ w.cell? ⟨g,1,none⟩ = some c1 ∧ w.frozen? ⟨g,0,none⟩ = false ∧ w.frozen? ⟨g,1,none⟩ = false:=⟨(blk_cell h.out 0).trans rfl,(blk_cell h.out 1).trans rfl,blk_frozen h.out 0,blk_frozen h.out 1⟩
theorem bp2_0_ {w : World} {g : Nat} {t : TypeId} {c0 c1 z : Value} (h : w.heap[g]? = some (.cells #[z,c1] t (0,0))) : (w.setCell ⟨g,0,none⟩ c0).heap[g]? = some (.cells #[c0,c1] t (0,0)):=blk_put h 0 c0 rfl
theorem bp2_1_ {w : World} {g : Nat} {t : TypeId} {c0 c1 z : Value} (h : w.heap[g]? = some (.cells #[c0,z] t (0,0))) : (w.setCell ⟨g,1,none⟩ c1).heap[g]? = some (.cells #[c0,c1] t (0,0)):=blk_put h 1 c1 rfl
theorem bz5_ {w : World} {g : Nat} {t : TypeId} {c0 c1 c2 c3 c4 : Value} (h : Aside0 (w.heap[g]? = some (.cells #[c0,c1,c2,c3,c4] t (0,0)))) : w.cell? ⟨g,0,none⟩ = some c0 ∧ w.cell? ⟨g,1,none⟩ = some c1 ∧ w.cell? ⟨g,2,none⟩ = some c2 ∧ w.cell? ⟨g,3,none⟩ = some c3 ∧ w.cell? ⟨g,4,none⟩ = some c4 ∧ w.frozen? ⟨g,0,none⟩ = false ∧ w.frozen? ⟨g,1,none⟩ = false ∧ w.frozen? ⟨g,2,none⟩ = false ∧ w.frozen? ⟨g,3,none⟩ = false ∧ w.frozen? ⟨g,4,none⟩ = false:=⟨(blk_cell h.out 0).trans rfl,(blk_cell h.out 1).trans rfl,(blk_cell h.out 2).trans rfl,(blk_cell h.out 3).trans rfl,(blk_cell h.out 4).trans rfl,blk_frozen h.out 0,blk_frozen h.out 1,blk_frozen h.out 2,blk_frozen h.out 3,blk_frozen h.out 4⟩
theorem bp5_0_ {w : World} {g : Nat} {t : TypeId} {c0 c1 c2 c3 c4 z : Value} (h : w.heap[g]? = some (.cells #[z,c1,c2,c3,c4] t (0,0))) : (w.setCell ⟨g,0,none⟩ c0).heap[g]? = some (.cells #[c0,c1,c2,c3,c4] t (0,0)):=blk_put h 0 c0 rfl
theorem bp5_1_ {w : World} {g : Nat} {t : TypeId} {c0 c1 c2 c3 c4 z : Value} (h : w.heap[g]? = some (.cells #[c0,z,c2,c3,c4] t (0,0))) : (w.setCell ⟨g,1,none⟩ c1).heap[g]? = some (.cells #[c0,c1,c2,c3,c4] t (0,0)):=blk_put h 1 c1 rfl
theorem bp5_2_ {w : World} {g : Nat} {t : TypeId} {c0 c1 c2 c3 c4 z : Value} (h : w.heap[g]? = some (.cells #[c0,c1,z,c3,c4] t (0,0))) : (w.setCell ⟨g,2,none⟩ c2).heap[g]? = some (.cells #[c0,c1,c2,c3,c4] t (0,0)):=blk_put h 2 c2 rfl
theorem bp5_3_ {w : World} {g : Nat} {t : TypeId} {c0 c1 c2 c3 c4 z : Value} (h : w.heap[g]? = some (.cells #[c0,c1,c2,z,c4] t (0,0))) : (w.setCell ⟨g,3,none⟩ c3).heap[g]? = some (.cells #[c0,c1,c2,c3,c4] t (0,0)):=blk_put h 3 c3 rfl
theorem bp5_4_ {w : World} {g : Nat} {t : TypeId} {c0 c1 c2 c3 c4 z : Value} (h : w.heap[g]? = some (.cells #[c0,c1,c2,c3,z] t (0,0))) : (w.setCell ⟨g,4,none⟩ c4).heap[g]? = some (.cells #[c0,c1,c2,c3,c4] t (0,0)):=blk_put h 4 c4 rfl
theorem bz6_ {w : World} {g : Nat} {t : TypeId} {c0 c1 c2 c3 c4 c5 : Value} (h : Aside0 (w.heap[g]? = some (.cells #[c0,c1,c2,c3,c4,c5] t (0,0)))) : w.cell? ⟨g,0,none⟩ = some c0 ∧ w.cell? ⟨g,1,none⟩ = some c1 ∧ w.cell? ⟨g,2,none⟩ = some c2 ∧ w.cell? ⟨g,3,none⟩ = some c3 ∧ w.cell? ⟨g,4,none⟩ = some c4 ∧ w.cell? ⟨g,5,none⟩ = some c5 ∧ w.frozen? ⟨g,0,none⟩ = false ∧ w.frozen? ⟨g,1,none⟩ = false ∧ w.frozen? ⟨g,2,none⟩ = false ∧ w.frozen? ⟨g,3,none⟩ = false ∧ w.frozen? ⟨g,4,none⟩ = false ∧ w.frozen? ⟨g,5,none⟩ = false:=⟨(blk_cell h.out 0).trans rfl,(blk_cell h.out 1).trans rfl,(blk_cell h.out 2).trans rfl,(blk_cell h.out 3).trans rfl,(blk_cell h.out 4).trans rfl,(blk_cell h.out 5).trans rfl,blk_frozen h.out 0,blk_frozen h.out 1,blk_frozen h.out 2,blk_frozen h.out 3,blk_frozen h.out 4,blk_frozen h.out 5⟩
theorem bp6_0_ {w : World} {g : Nat} {t : TypeId} {c0 c1 c2 c3 c4 c5 z : Value} (h : w.heap[g]? = some (.cells #[z,c1,c2,c3,c4,c5] t (0,0))) : (w.setCell ⟨g,0,none⟩ c0).heap[g]? = some (.cells #[c0,c1,c2,c3,c4,c5] t (0,0)):=blk_put h 0 c0 rfl
theorem bp6_1_ {w : World} {g : Nat} {t : TypeId} {c0 c1 c2 c3 c4 c5 z : Value} (h : w.heap[g]? = some (.cells #[c0,z,c2,c3,c4,c5] t (0,0))) : (w.setCell ⟨g,1,none⟩ c1).heap[g]? = some (.cells #[c0,c1,c2,c3,c4,c5] t (0,0)):=blk_put h 1 c1 rfl
theorem bp6_2_ {w : World} {g : Nat} {t : TypeId} {c0 c1 c2 c3 c4 c5 z : Value} (h : w.heap[g]? = some (.cells #[c0,c1,z,c3,c4,c5] t (0,0))) : (w.setCell ⟨g,2,none⟩ c2).heap[g]? = some (.cells #[c0,c1,c2,c3,c4,c5] t (0,0)):=blk_put h 2 c2 rfl
theorem bp6_3_ {w : World} {g : Nat} {t : TypeId} {c0 c1 c2 c3 c4 c5 z : Value} (h : w.heap[g]? = some (.cells #[c0,c1,c2,z,c4,c5] t (0,0))) : (w.setCell ⟨g,3,none⟩ c3).heap[g]? = some (.cells #[c0,c1,c2,c3,c4,c5] t (0,0)):=blk_put h 3 c3 rfl
theorem bp6_4_ {w : World} {g : Nat} {t : TypeId} {c0 c1 c2 c3 c4 c5 z : Value} (h : w.heap[g]? = some (.cells #[c0,c1,c2,c3,z,c5] t (0,0))) : (w.setCell ⟨g,4,none⟩ c4).heap[g]? = some (.cells #[c0,c1,c2,c3,c4,c5] t (0,0)):=blk_put h 4 c4 rfl
theorem bp6_5_ {w : World} {g : Nat} {t : TypeId} {c0 c1 c2 c3 c4 c5 z : Value} (h : w.heap[g]? = some (.cells #[c0,c1,c2,c3,c4,z] t (0,0))) : (w.setCell ⟨g,5,none⟩ c5).heap[g]? = some (.cells #[c0,c1,c2,c3,c4,c5] t (0,0)):=blk_put h 5 c5 rfl
theorem bz11_ {w : World} {g : Nat} {t : TypeId} {c0 c1 c2 c3 c4 c5 c6 c7 c8 c9 c10 : Value} (h : Aside0 (w.heap[g]? = some (.cells #[c0,c1,c2,c3,c4,c5,c6,c7,c8,c9,c10] t (0,0)))) : w.cell? ⟨g,0,none⟩ = some c0 ∧ w.cell? ⟨g,1,none⟩ = some c1 ∧ w.cell? ⟨g,2,none⟩ = some c2 ∧ w.cell? ⟨g,3,none⟩ = some c3 ∧ w.cell? ⟨g,4,none⟩ = some c4 ∧ w.cell? ⟨g,5,none⟩ = some c5 ∧ w.cell? ⟨g,6,none⟩ = some c6 ∧ w.cell? ⟨g,7,none⟩ = some c7 ∧ w.cell? ⟨g,8,none⟩ = some c8 ∧ w.cell? ⟨g,9,none⟩ = some c9 ∧ w.cell? ⟨g,10,none⟩ = some c10 ∧ w.frozen? ⟨g,0,none⟩ = false ∧ w.frozen? ⟨g,1,none⟩ = false ∧ w.frozen? ⟨g,2,none⟩ = false ∧ w.frozen? ⟨g,3,none⟩ = false ∧ w.frozen? ⟨g,4,none⟩ = false ∧ w.frozen? ⟨g,5,none⟩ = false ∧ w.frozen? ⟨g,6,none⟩ = false ∧ w.frozen? ⟨g,7,none⟩ = false ∧ w.frozen? ⟨g,8,none⟩ = false ∧ w.frozen? ⟨g,9,none⟩ = false ∧ w.frozen? ⟨g,10,none⟩ = false:=⟨(blk_cell h.out 0).trans rfl,(blk_cell h.out 1).trans rfl,(blk_cell h.out 2).trans rfl,(blk_cell h.out 3).trans rfl,(blk_cell h.out 4).trans rfl,(blk_cell h.out 5).trans rfl,(blk_cell h.out 6).trans rfl,(blk_cell h.out 7).trans rfl,(blk_cell h.out 8).trans rfl,(blk_cell h.out 9).trans rfl,(blk_cell h.out 10).trans rfl,blk_frozen h.out 0,blk_frozen h.out 1,blk_frozen h.out 2,blk_frozen h.out 3,blk_frozen h.out 4,blk_frozen h.out 5,blk_frozen h.out 6,blk_frozen h.out 7,blk_frozen h.out 8,blk_frozen h.out 9,blk_frozen h.out 10⟩
theorem bp11_0_ {w : World} {g : Nat} {t : TypeId} {c0 c1 c2 c3 c4 c5 c6 c7 c8 c9 c10 z : Value} (h : w.heap[g]? = some (.cells #[z,c1,c2,c3,c4,c5,c6,c7,c8,c9,c10] t (0,0))) : (w.setCell ⟨g,0,none⟩ c0).heap[g]? = some (.cells #[c0,c1,c2,c3,c4,c5,c6,c7,c8,c9,c10] t (0,0)):=blk_put h 0 c0 rfl
theorem bp11_1_ {w : World} {g : Nat} {t : TypeId} {c0 c1 c2 c3 c4 c5 c6 c7 c8 c9 c10 z : Value} (h : w.heap[g]? = some (.cells #[c0,z,c2,c3,c4,c5,c6,c7,c8,c9,c10] t (0,0))) : (w.setCell ⟨g,1,none⟩ c1).heap[g]? = some (.cells #[c0,c1,c2,c3,c4,c5,c6,c7,c8,c9,c10] t (0,0)):=blk_put h 1 c1 rfl
theorem bp11_2_ {w : World} {g : Nat} {t : TypeId} {c0 c1 c2 c3 c4 c5 c6 c7 c8 c9 c10 z : Value} (h : w.heap[g]? = some (.cells #[c0,c1,z,c3,c4,c5,c6,c7,c8,c9,c10] t (0,0))) : (w.setCell ⟨g,2,none⟩ c2).heap[g]? = some (.cells #[c0,c1,c2,c3,c4,c5,c6,c7,c8,c9,c10] t (0,0)):=blk_put h 2 c2 rfl
theorem bp11_3_ {w : World} {g : Nat} {t : TypeId} {c0 c1 c2 c3 c4 c5 c6 c7 c8 c9 c10 z : Value} (h : w.heap[g]? = some (.cells #[c0,c1,c2,z,c4,c5,c6,c7,c8,c9,c10] t (0,0))) : (w.setCell ⟨g,3,none⟩ c3).heap[g]? = some (.cells #[c0,c1,c2,c3,c4,c5,c6,c7,c8,c9,c10] t (0,0)):=blk_put h 3 c3 rfl
theorem bp11_4_ {w : World} {g : Nat} {t : TypeId} {c0 c1 c2 c3 c4 c5 c6 c7 c8 c9 c10 z : Value} (h : w.heap[g]? = some (.cells #[c0,c1,c2,c3,z,c5,c6,c7,c8,c9,c10] t (0,0))) : (w.setCell ⟨g,4,none⟩ c4).heap[g]? = some (.cells #[c0,c1,c2,c3,c4,c5,c6,c7,c8,c9,c10] t (0,0)):=blk_put h 4 c4 rfl
theorem bp11_5_ {w : World} {g : Nat} {t : TypeId} {c0 c1 c2 c3 c4 c5 c6 c7 c8 c9 c10 z : Value} (h : w.heap[g]? = some (.cells #[c0,c1,c2,c3,c4,z,c6,c7,c8,c9,c10] t (0,0))) : (w.setCell ⟨g,5,none⟩ c5).heap[g]? = some (.cells #[c0,c1,c2,c3,c4,c5,c6,c7,c8,c9,c10] t (0,0)):=blk_put h 5 c5 rfl
theorem bp11_6_ {w : World} {g : Nat} {t : TypeId} {c0 c1 c2 c3 c4 c5 c6 c7 c8 c9 c10 z : Value} (h : w.heap[g]? = some (.cells #[c0,c1,c2,c3,c4,c5,z,c7,c8,c9,c10] t (0,0))) : (w.setCell ⟨g,6,none⟩ c6).heap[g]? = some (.cells #[c0,c1,c2,c3,c4,c5,c6,c7,c8,c9,c10] t (0,0)):=blk_put h 6 c6 rfl
theorem bp11_7_ {w : World} {g : Nat} {t : TypeId} {c0 c1 c2 c3 c4 c5 c6 c7 c8 c9 c10 z : Value} (h : w.heap[g]? = some (.cells #[c0,c1,c2,c3,c4,c5,c6,z,c8,c9,c10] t (0,0))) : (w.setCell ⟨g,7,none⟩ c7).heap[g]? = some (.cells #[c0,c1,c2,c3,c4,c5,c6,c7,c8,c9,c10] t (0,0)):=blk_put h 7 c7 rfl
theorem bp11_8_ {w : World} {g : Nat} {t : TypeId} {c0 c1 c2 c3 c4 c5 c6 c7 c8 c9 c10 z : Value} (h : w.heap[g]? = some (.cells #[c0,c1,c2,c3,c4,c5,c6,c7,z,c9,c10] t (0,0))) : (w.setCell ⟨g,8,none⟩ c8).heap[g]? = some (.cells #[c0,c1,c2,c3,c4,c5,c6,c7,c8,c9,c10] t (0,0)):=blk_put h 8 c8 rfl
theorem bp11_9_ {w : World} {g : Nat} {t : TypeId} {c0 c1 c2 c3 c4 c5 c6 c7 c8 c9 c10 z : Value} (h : w.heap[g]? = some (.cells #[c0,c1,c2,c3,c4,c5,c6,c7,c8,z,c10] t (0,0))) : (w.setCell ⟨g,9,none⟩ c9).heap[g]? = some (.cells #[c0,c1,c2,c3,c4,c5,c6,c7,c8,c9,c10] t (0,0)):=blk_put h 9 c9 rfl
theorem bp11_10_ {w : World} {g : Nat} {t : TypeId} {c0 c1 c2 c3 c4 c5 c6 c7 c8 c9 c10 z : Value} (h : w.heap[g]? = some (.cells #[c0,c1,c2,c3,c4,c5,c6,c7,c8,c9,z] t (0,0))) : (w.setCell ⟨g,10,none⟩ c10).heap[g]? = some (.cells #[c0,c1,c2,c3,c4,c5,c6,c7,c8,c9,c10] t (0,0)):=blk_put h 10 c10 rfl
theorem q0_ {A Z : Prop} (a0 : Aside0 A) (h : A → Z:=by intro h0_;repeat (first | (with_reducible first | exact h0_ | apply below_alloc | apply pw_below_drewN | apply below_drew1) | exact h0_)) : Z:=h a0.out
theorem q1_ {A Z : Prop} (a0 : Aside0 A) (h : A → Z:=by intro h0_;(with_reducible repeat (first | refine blk_drewN ?_ _ | refine blk_drew ?_ | refine blk_alloc ?_ _));exact h0_) : Z:=h a0.out
theorem q2_ {A B Z : Prop} (a0 : Aside0 A) (a1 : Aside0 B) (h : A → B → Z:=by intro h0_ h1_;repeat (first | (with_reducible first | exact h0_ | apply below_alloc | apply pw_below_drewN | apply below_drew1 | refine below_set ?_ h1_) | exact h0_)) : Z:=h a0.out a1.out
theorem q3_ {A B C Z : Prop} (a0 : Aside0 A) (a1 : Aside0 B) (a2 : Aside0 C) (h : A → B → C → Z:=by intro h0_ h1_ h2_;repeat (first | (with_reducible first | exact h0_ | apply below_alloc | apply pw_below_drewN | apply below_drew1 | refine below_set ?_ h1_ | refine below_set ?_ h2_) | exact h0_)) : Z:=h a0.out a1.out a2.out
theorem q4_ {A B Z : Prop} (a0 : Aside0 A) (a1 : Aside0 B) (h : A → B → Z:=by intro h0_ h1_;(with_reducible repeat (first | refine blk_drewN ?_ _ | refine blk_drew ?_ | refine blk_alloc ?_ _));refine blk_far ?_ h0_ _;(with_reducible repeat (first | refine blk_drewN ?_ _ | refine blk_drew ?_ | refine blk_alloc ?_ _));refine blk_far ?_ h0_ _;(with_reducible repeat (first | refine blk_drewN ?_ _ | refine blk_drew ?_ | refine blk_alloc ?_ _));refine blk_far ?_ h0_ _;(with_reducible repeat (first | refine blk_drewN ?_ _ | refine blk_drew ?_ | refine blk_alloc ?_ _));refine blk_far ?_ h0_ _;(with_reducible repeat (first | refine blk_drewN ?_ _ | refine blk_drew ?_ | refine blk_alloc ?_ _));refine blk_far ?_ h0_ _;(with_reducible repeat (first | refine blk_drewN ?_ _ | refine blk_drew ?_ | refine blk_alloc ?_ _));exact h1_) : Z:=h a0.out a1.out
theorem q5_ {A Z : Prop} (a0 : Aside0 A) (h : A → Z:=by intro h0_;(with_reducible repeat (first | refine blk_drewN ?_ _ | refine blk_drew ?_ | refine blk_alloc ?_ _));apply bp5_4_;(with_reducible repeat (first | refine blk_drewN ?_ _ | refine blk_drew ?_ | refine blk_alloc ?_ _));apply bp5_3_;(with_reducible repeat (first | refine blk_drewN ?_ _ | refine blk_drew ?_ | refine blk_alloc ?_ _));apply bp5_2_;(with_reducible repeat (first | refine blk_drewN ?_ _ | refine blk_drew ?_ | refine blk_alloc ?_ _));apply bp5_1_;(with_reducible repeat (first | refine blk_drewN ?_ _ | refine blk_drew ?_ | refine blk_alloc ?_ _));apply bp5_0_;(with_reducible repeat (first | refine blk_drewN ?_ _ | refine blk_drew ?_ | refine blk_alloc ?_ _));exact h0_) : Z:=h a0.out
theorem q6_ {A B C D Z : Prop} (a0 : Aside0 A) (a1 : Aside0 B) (a2 : Aside0 C) (a3 : Aside0 D) (h : A → B → C → D → Z:=by intro h0_ h1_ h2_ h3_;repeat (first | (with_reducible first | exact h0_ | apply below_alloc | apply pw_below_drewN | apply below_drew1 | refine below_set ?_ h1_ | refine below_set ?_ h2_ | refine below_set ?_ h3_) | exact h0_)) : Z:=h a0.out a1.out a2.out a3.out
theorem q7_ {A B C D E Z : Prop} (a0 : Aside0 A) (a1 : Aside0 B) (a2 : Aside0 C) (a3 : Aside0 D) (a4 : Aside0 E) (h : A → B → C → D → E → Z:=by intro h0_ h1_ h2_ h3_ h4_;repeat (first | (with_reducible first | exact h0_ | apply below_alloc | apply pw_below_drewN | apply below_drew1 | refine below_set ?_ h1_ | refine below_set ?_ h2_ | refine below_set ?_ h3_ | refine below_set ?_ h4_) | exact h0_)) : Z:=h a0.out a1.out a2.out a3.out a4.out
theorem q8_ {A Z : Prop} (a0 : Aside0 A) (h : A → Z:=by intro h0_;(with_reducible repeat (first | apply Kd.S_alloc | apply Kd.S_drewN | apply Kd.S_drew));exact h0_) : Z:=h a0.out
theorem q9_ {A Z : Prop} (a0 : Aside0 A) (h : A → Z:=by intro h0_;(with_reducible repeat (first | apply Kd.R_alloc | apply Kd.R_drewN | apply Kd.R_drew));exact h0_) : Z:=h a0.out
theorem q10_ {A B Z : Prop} (a0 : Aside0 A) (a1 : Aside0 B) (h : A → B → Z:=by intro h0_ h1_;(with_reducible repeat (first | refine blk_drewN ?_ _ | refine blk_drew ?_ | refine blk_alloc ?_ _));refine blk_far ?_ h0_ _;(with_reducible repeat (first | refine blk_drewN ?_ _ | refine blk_drew ?_ | refine blk_alloc ?_ _));exact h1_) : Z:=h a0.out a1.out
theorem q11_ {A B Z : Prop} (a0 : Aside0 A) (a1 : Aside0 B) (h : A → B → Z:=by intro h0_ h1_;(with_reducible repeat (first | refine blk_drewN ?_ _ | refine blk_drew ?_ | refine blk_alloc ?_ _));refine blk_far ?_ h0_ _;(with_reducible repeat (first | refine blk_drewN ?_ _ | refine blk_drew ?_ | refine blk_alloc ?_ _));refine blk_far ?_ h0_ _;(with_reducible repeat (first | refine blk_drewN ?_ _ | refine blk_drew ?_ | refine blk_alloc ?_ _));refine blk_far ?_ h0_ _;(with_reducible repeat (first | refine blk_drewN ?_ _ | refine blk_drew ?_ | refine blk_alloc ?_ _));refine blk_far ?_ h0_ _;(with_reducible repeat (first | refine blk_drewN ?_ _ | refine blk_drew ?_ | refine blk_alloc ?_ _));exact h1_) : Z:=h a0.out a1.out
theorem q12_ {A Z : Prop} (a0 : Aside0 A) (h : A → Z:=by intro h0_;(with_reducible repeat (first | refine blk_drewN ?_ _ | refine blk_drew ?_ | refine blk_alloc ?_ _));apply bp6_4_;(with_reducible repeat (first | refine blk_drewN ?_ _ | refine blk_drew ?_ | refine blk_alloc ?_ _));exact h0_) : Z:=h a0.out
theorem q13_ {A Z : Prop} (a0 : Aside0 A) (h : A → Z:=by intro h0_;(with_reducible repeat (first | refine blk_drewN ?_ _ | refine blk_drew ?_ | refine blk_alloc ?_ _));apply bp5_0_;(with_reducible repeat (first | refine blk_drewN ?_ _ | refine blk_drew ?_ | refine blk_alloc ?_ _));exact h0_) : Z:=h a0.out
end Go.Proofs.Ythbflhimmmfonaa.P

namespace Go.Proofs.Ythbflhimmmfonaa.P
open Go.RowKit
end Go.Proofs.Ythbflhimmmfonaa.P

namespace Go.Proofs.Ythbflhimmmfonaa.P
open Go.RowKit Go.Proofs.YthbflhimmmfonaaW.PrintWords Go.Proofs.YthbflhimmmfonaaW.PrintLast Go.Proofs.YthbflhimmmfonaaW.PrintMore
attribute [local go_sem] max2_int min2_int max_two min_two max_three min_three max_four min_four
set_option linter.unusedVariables false
set_option linter.unusedSimpArgs false
def slices_Equal_int_int.l0 : Nat → List Int → List Int → Int → Int → Option (Bool)
 | 0,_,_,_,_=>none
 | k + 1,x0,x1,x12,x13=>if x13 < x12 then (if 0 ≤ x13 then (if x13 < (x0.length : Int) then (if x13 < (x1.length : Int) then (if (rd x0 x13) = (rd x1 x13) then (slices_Equal_int_int.l0 k x0 x1 x12 (wrap64 (x13 + 1))) else (some false)) else (none)) else (none)) else (none)) else (some true)
def slices_Equal_int_int.f (k : Nat) (l0 : List Int) (l1 : List Int) : Option (Bool):=if (l0.length : Int) = (l1.length : Int) then (slices_Equal_int_int.l0 k l0 l1 (l0.length : Int) 0) else (some false)
set_option maxHeartbeats 8000000 in
set_option maxRecDepth 100000 in
theorem slices_Equal_int_int.calls (k : Nat) (A0 : Option Addr) (c0 : Nat) (l0 : List Int) (A1 : Option Addr) (c1 : Nat) (l1 : List Int) (r : Bool) (w : World) (hr0 : Kd.C (Kd.int .i64) w A0 l0.length l0) (hc0 : l0.length ≤ c0) (hr1 : Kd.C (Kd.int .i64) w A1 l1.length l1) (hc1 : l1.length ≤ c1) (h : slices_Equal_int_int.f k l0 l1 = some r) :
  Calls Try.prog 46 #[.slice A0 l0.length c0,.slice A1 l1.length c1] w fun e w'=>e = .returned (.bool r) ∧ Drawn0 w w':=by
 have HR0:=Aside0.mk hr0;have HC0:=Aside0.mk hc0;clear hr0 hc0;have HR1:=Aside0.mk hr1;have HC1:=Aside0.mk hc1;clear hr1 hc1;have H : (if (l0.length : Int) = (l1.length : Int) then (slices_Equal_int_int.l0 k l0 l1 (l0.length : Int) 0) else (some false)) = some r:=h;clear h
 by_cases c3 : (l0.length : Int) = (l1.length : Int)
 ·rw [if_pos c3] at H;have c3b0 : ((l0.length : Int) == (l1.length : Int)) = true:=beq_iff_eq.mpr c3;have c3b1 : ((l0.length : Int) != (l1.length : Int)) = false:=bne_eq_false_iff_eq.mpr c3
  have c3b2 : (l0.length == l1.length) = true:=by first | simpa using c3 | (simp at c3 ⊢;omega)
  clear c3;have H':=Aside0.mk H;clear H;go_enter Try.func46,Try.ntmps46
  go_wp2
  repeat (go_quiet (fail);try go_wp2)
  go_loopg [13] k (fun kq v13 w'=>∃ (x13_1 : Int),v13 = .int .i64 x13_1 ∧ Aside0 (slices_Equal_int_int.l0 kq l0 l1 (l0.length : Int) x13_1 = some r) ∧ Aside0 (kq ≤ k) ∧ Drawn0 w w')
  case atStart=>exact ⟨(0),(by first | rfl | (simp;done) | (simp [*];done)),H',⟨Nat.le_refl _⟩,by repeat (first | exact Drawn0.refl _ | apply Drawn0.step)⟩
  case round =>
   clear H';(try clear c1);(try clear p2);(try clear c3);(try clear c3b0);(try clear c3b1);(try clear c3b2);obtain ⟨x13_1,rfl,HA,HK1,⟨m1,rfl⟩⟩:=hrel
   cases gk with
   | zero=>exact absurd HA.out (by simp [slices_Equal_int_int.l0])
   | succ k1 =>
    have H:=HA.out;clear HA;simp only [slices_Equal_int_int.l0] at H
    by_cases c4 : x13_1 < (l0.length : Int)
    ·rw [if_pos c4] at H;have c4b0 : decide (x13_1 < (l0.length : Int)) = true:=decide_eq_true c4;clear c4
     by_cases c5 : 0 ≤ x13_1
     ·rw [if_pos c5] at H;have c5b0 : decide (0 ≤ x13_1) = true:=decide_eq_true c5;clear c5
      by_cases c6 : x13_1 < (l0.length : Int)
      ·rw [if_pos c6] at H;have c6b0 : decide (x13_1 < (l0.length : Int)) = true:=decide_eq_true c6;clear c6
       by_cases c7 : x13_1 < (l1.length : Int)
       ·rw [if_pos c7] at H;have c7b0 : decide (x13_1 < (l1.length : Int)) = true:=decide_eq_true c7;clear c7
        by_cases c8 : (rd l0 x13_1) = (rd l1 x13_1)
        ·rw [if_pos c8] at H;have c8b0 : ((rd l0 x13_1) == (rd l1 x13_1)) = true:=beq_iff_eq.mpr c8;have c8b1 : ((rd l0 x13_1) != (rd l1 x13_1)) = false:=bne_eq_false_iff_eq.mpr c8;clear c8;have H':=Aside0.mk H;clear H
         have p520 : 0 ≤ (x13_1 : Int):=of_decide_eq_true (by first | (with_reducible assumption) | assumption)
         have q520 : x13_1 < (l0.length : Int):=of_decide_eq_true (by first | (with_reducible assumption) | assumption)
         obtain ⟨ad520,e520,hx520_0⟩:=Kd.at_int HR0.out x13_1 p520 q520
         cases e520
         replace p520:=eq_true p520;replace q520:=eq_true q520
         have p521 : 0 ≤ (x13_1 : Int):=of_decide_eq_true (by first | (with_reducible assumption) | assumption)
         have q521 : x13_1 < (l1.length : Int):=of_decide_eq_true (by first | (with_reducible assumption) | assumption)
         obtain ⟨ad521,e521,hx521_0⟩:=Kd.at_int HR1.out x13_1 p521 q521
         cases e521
         replace p521:=eq_true p521;replace q521:=eq_true q521
         go_wp2
         repeat (go_quiet (fail);try go_wp2)
         go_roundg k1
         case measure=>have:=HK1.out;omega
         case rel=>exact ⟨(wrap64 (x13_1 + 1)),(by first | rfl | (simp;done) | (simp [*];done)),H',⟨by have:=HK1.out;omega⟩,by repeat (first | exact Drawn0.refl _ | apply Drawn0.step)⟩
        ·rw [if_neg c8] at H;have c8b0 : ((rd l0 x13_1) == (rd l1 x13_1)) = false:=beq_eq_false_iff_ne.mpr c8;have c8b1 : ((rd l0 x13_1) != (rd l1 x13_1)) = true:=bne_iff_ne.mpr c8;obtain rfl:=Option.some.inj H
         have p520 : 0 ≤ (x13_1 : Int):=of_decide_eq_true (by first | (with_reducible assumption) | assumption)
         have q520 : x13_1 < (l0.length : Int):=of_decide_eq_true (by first | (with_reducible assumption) | assumption)
         obtain ⟨ad520,e520,hx520_0⟩:=Kd.at_int HR0.out x13_1 p520 q520
         cases e520
         replace p520:=eq_true p520;replace q520:=eq_true q520
         have p521 : 0 ≤ (x13_1 : Int):=of_decide_eq_true (by first | (with_reducible assumption) | assumption)
         have q521 : x13_1 < (l1.length : Int):=of_decide_eq_true (by first | (with_reducible assumption) | assumption)
         obtain ⟨ad521,e521,hx521_0⟩:=Kd.at_int HR1.out x13_1 p521 q521
         cases e521
         replace p521:=eq_true p521;replace q521:=eq_true q521
         go_wp2
         repeat (go_quiet (fail);try go_wp2)
         go_ret
         exact ⟨by first | rfl | (simp;done) | (simp [*];done),by repeat (first | exact Drawn0.refl _ | apply Drawn0.step)⟩
       ·rw [if_neg c7] at H
        exact absurd H (by simp)
      ·rw [if_neg c6] at H
       exact absurd H (by simp)
     ·rw [if_neg c5] at H
      exact absurd H (by simp)
    ·rw [if_neg c4] at H;have c4b0 : decide (x13_1 < (l0.length : Int)) = false:=decide_eq_false c4;clear c4;obtain rfl:=Option.some.inj H
     go_wp2
     repeat (go_quiet (fail);try go_wp2)
     go_ret
     exact ⟨by first | rfl | (simp;done) | (simp [*];done),by repeat (first | exact Drawn0.refl _ | apply Drawn0.step)⟩
 ·rw [if_neg c3] at H;have c3b0 : ((l0.length : Int) == (l1.length : Int)) = false:=beq_eq_false_iff_ne.mpr c3;have c3b1 : ((l0.length : Int) != (l1.length : Int)) = true:=bne_iff_ne.mpr c3
  have c3b2 : (l0.length == l1.length) = false:=by first | simpa using c3 | (simp at c3 ⊢;omega)
  obtain rfl:=Option.some.inj H;go_enter Try.func46,Try.ntmps46
  go_wp2
  repeat (go_quiet (fail);try go_wp2)
  go_ret
  exact ⟨by first | rfl | (simp;done) | (simp [*];done),by repeat (first | exact Drawn0.refl _ | apply Drawn0.step)⟩
theorem eqA74 (d : Nat) (w : World) (x0 y0 : Int) (x1 y1 : Int) :
  (Op.equalIn (d + 2) 74 (.agg #[.int .i64 x0,.int .i64 x1]) (.agg #[.int .i64 y0,.int .i64 y1])).run Try.prog w = .ok (x0 == y0 && (x1 == y1)) w:=by
 refine eqA_of Try.underlying74 (by kernel_rfl) ?_
 refine eqf_cons (by rfl) (by go_simp;rfl) (by go_simp;rfl) (by go_simp) ?_
 exact eqf_last (by rfl) (by go_simp;rfl) (by go_simp;rfl) (by go_simp)
attribute [local go_sem high] eqA74
def impl_Say.l0 : Nat → List (S74) → List (S74) → Int → Int → Option (Bool)
 | 0,_,_,_,_=>none
 | k + 1,x0,x1,x12,x13=>if x13 < x12 then (if 0 ≤ x13 then (if x13 < (x0.length : Int) then (if x13 < (x1.length : Int) then (if (!(((rd_T74 x0 x13).f0) == ((rd_T74 x1 x13).f0)) || (!(((rd_T74 x0 x13).f1) == ((rd_T74 x1 x13).f1)))) = true then (some false) else (impl_Say.l0 k x0 x1 x12 (wrap64 (x13 + 1)))) else (none)) else (none)) else (none)) else (some true)
def impl_Say.f (k : Nat) (l0 : List (S74)) (l1 : List (S74)) : Option (Bool):=if (l0.length : Int) = (l1.length : Int) then (impl_Say.l0 k l0 l1 (l0.length : Int) 0) else (some false)
set_option maxHeartbeats 8000000 in
set_option maxRecDepth 100000 in
theorem impl_Say.calls (k : Nat) (A0 : Option Addr) (c0 : Nat) (l0 : List (S74)) (A1 : Option Addr) (c1 : Nat) (l1 : List (S74)) (r : Bool) (w : World) (hr0 : Kd.C k74 w A0 l0.length l0) (hc0 : l0.length ≤ c0) (hr1 : Kd.C k74 w A1 l1.length l1) (hc1 : l1.length ≤ c1) (h : impl_Say.f k l0 l1 = some r) :
  Calls Try.prog 47 #[.slice A0 l0.length c0,.slice A1 l1.length c1] w fun e w'=>e = .returned (.bool r) ∧ Drawn0 w w':=by
 have hu74:=Try.underlying74;have HR0:=Aside0.mk hr0;have HC0:=Aside0.mk hc0;clear hr0 hc0;have HR1:=Aside0.mk hr1;have HC1:=Aside0.mk hc1;clear hr1 hc1;have H : (if (l0.length : Int) = (l1.length : Int) then (impl_Say.l0 k l0 l1 (l0.length : Int) 0) else (some false)) = some r:=h;clear h
 by_cases c3 : (l0.length : Int) = (l1.length : Int)
 ·rw [if_pos c3] at H;have c3b0 : ((l0.length : Int) == (l1.length : Int)) = true:=beq_iff_eq.mpr c3;have c3b1 : ((l0.length : Int) != (l1.length : Int)) = false:=bne_eq_false_iff_eq.mpr c3
  have c3b2 : (l0.length == l1.length) = true:=by first | simpa using c3 | (simp at c3 ⊢;omega)
  clear c3;have H':=Aside0.mk H;clear H;go_enter Try.func47,Try.ntmps47
  go_wp2
  repeat (go_quiet (fail);try go_wp2)
  go_loopg [13] k (fun kq v13 w'=>∃ (x13_1 : Int),v13 = .int .i64 x13_1 ∧ Aside0 (impl_Say.l0 kq l0 l1 (l0.length : Int) x13_1 = some r) ∧ Aside0 (kq ≤ k) ∧ Drawn0 w w')
  case atStart=>exact ⟨(0),(by first | rfl | (simp;done) | (simp [*];done)),H',⟨Nat.le_refl _⟩,by repeat (first | exact Drawn0.refl _ | apply Drawn0.step)⟩
  case round =>
   clear H';(try clear c1);(try clear p2);(try clear c3);(try clear c3b0);(try clear c3b1);(try clear c3b2);obtain ⟨x13_1,rfl,HA,HK1,⟨m1,rfl⟩⟩:=hrel
   cases gk with
   | zero=>exact absurd HA.out (by simp [impl_Say.l0])
   | succ k1 =>
    have H:=HA.out;clear HA;simp only [impl_Say.l0] at H
    by_cases c4 : x13_1 < (l0.length : Int)
    ·rw [if_pos c4] at H;have c4b0 : decide (x13_1 < (l0.length : Int)) = true:=decide_eq_true c4;clear c4
     by_cases c5 : 0 ≤ x13_1
     ·rw [if_pos c5] at H;have c5b0 : decide (0 ≤ x13_1) = true:=decide_eq_true c5;clear c5
      by_cases c6 : x13_1 < (l0.length : Int)
      ·rw [if_pos c6] at H;have c6b0 : decide (x13_1 < (l0.length : Int)) = true:=decide_eq_true c6;clear c6
       by_cases c7 : x13_1 < (l1.length : Int)
       ·rw [if_pos c7] at H;have c7b0 : decide (x13_1 < (l1.length : Int)) = true:=decide_eq_true c7;clear c7
        by_cases c8 : (!(((rd_T74 l0 x13_1).f0) == ((rd_T74 l1 x13_1).f0)) || (!(((rd_T74 l0 x13_1).f1) == ((rd_T74 l1 x13_1).f1)))) = true
        ·rw [if_pos c8] at H;have c8b0 : (!(((rd_T74 l0 x13_1).f0) == ((rd_T74 l1 x13_1).f0)) || (!(((rd_T74 l0 x13_1).f1) == ((rd_T74 l1 x13_1).f1)))) = true:=c8;clear c8;obtain rfl:=Option.some.inj H
         have p1200 : 0 ≤ (x13_1 : Int):=of_decide_eq_true (by first | (with_reducible assumption) | assumption)
         have q1200 : x13_1 < (l0.length : Int):=of_decide_eq_true (by first | (with_reducible assumption) | assumption)
         obtain ⟨ad1200,e1200,hx1200_0,hx1200_1⟩:=at_T74 HR0.out x13_1 p1200 q1200
         cases e1200
         replace p1200:=eq_true p1200;replace q1200:=eq_true q1200
         have p1201 : 0 ≤ (x13_1 : Int):=of_decide_eq_true (by first | (with_reducible assumption) | assumption)
         have q1201 : x13_1 < (l1.length : Int):=of_decide_eq_true (by first | (with_reducible assumption) | assumption)
         obtain ⟨ad1201,e1201,hx1201_0,hx1201_1⟩:=at_T74 HR1.out x13_1 p1201 q1201
         cases e1201
         replace p1201:=eq_true p1201;replace q1201:=eq_true q1201
         go_wp2
         repeat (go_quiet (fail);try go_wp2)
         go_ret
         exact ⟨by first | rfl | (simp;done) | (simp [*];done),by repeat (first | exact Drawn0.refl _ | apply Drawn0.step)⟩
        ·rw [if_neg c8] at H
         have c8b0 : (!(((rd_T74 l0 x13_1).f0) == ((rd_T74 l1 x13_1).f0)) || (!(((rd_T74 l0 x13_1).f1) == ((rd_T74 l1 x13_1).f1)))) = false:=by simpa using c8
         clear c8;have H':=Aside0.mk H;clear H
         have p1200 : 0 ≤ (x13_1 : Int):=of_decide_eq_true (by first | (with_reducible assumption) | assumption)
         have q1200 : x13_1 < (l0.length : Int):=of_decide_eq_true (by first | (with_reducible assumption) | assumption)
         obtain ⟨ad1200,e1200,hx1200_0,hx1200_1⟩:=at_T74 HR0.out x13_1 p1200 q1200
         cases e1200
         replace p1200:=eq_true p1200;replace q1200:=eq_true q1200
         have p1201 : 0 ≤ (x13_1 : Int):=of_decide_eq_true (by first | (with_reducible assumption) | assumption)
         have q1201 : x13_1 < (l1.length : Int):=of_decide_eq_true (by first | (with_reducible assumption) | assumption)
         obtain ⟨ad1201,e1201,hx1201_0,hx1201_1⟩:=at_T74 HR1.out x13_1 p1201 q1201
         cases e1201
         replace p1201:=eq_true p1201;replace q1201:=eq_true q1201
         go_wp2
         repeat (go_quiet (fail);try go_wp2)
         go_roundg k1
         case measure=>have:=HK1.out;omega
         case rel=>exact ⟨(wrap64 (x13_1 + 1)),(by first | rfl | (simp;done) | (simp [*];done)),H',⟨by have:=HK1.out;omega⟩,by repeat (first | exact Drawn0.refl _ | apply Drawn0.step)⟩
       ·rw [if_neg c7] at H
        exact absurd H (by simp)
      ·rw [if_neg c6] at H
       exact absurd H (by simp)
     ·rw [if_neg c5] at H
      exact absurd H (by simp)
    ·rw [if_neg c4] at H;have c4b0 : decide (x13_1 < (l0.length : Int)) = false:=decide_eq_false c4;clear c4;obtain rfl:=Option.some.inj H
     go_wp2
     repeat (go_quiet (fail);try go_wp2)
     go_ret
     exact ⟨by first | rfl | (simp;done) | (simp [*];done),by repeat (first | exact Drawn0.refl _ | apply Drawn0.step)⟩
 ·rw [if_neg c3] at H;have c3b0 : ((l0.length : Int) == (l1.length : Int)) = false:=beq_eq_false_iff_ne.mpr c3;have c3b1 : ((l0.length : Int) != (l1.length : Int)) = true:=bne_iff_ne.mpr c3
  have c3b2 : (l0.length == l1.length) = false:=by first | simpa using c3 | (simp at c3 ⊢;omega)
  obtain rfl:=Option.some.inj H;go_enter Try.func47,Try.ntmps47
  go_wp2
  repeat (go_quiet (fail);try go_wp2)
  go_ret
  exact ⟨by first | rfl | (simp;done) | (simp [*];done),by repeat (first | exact Drawn0.refl _ | apply Drawn0.step)⟩
end Go.Proofs.Ythbflhimmmfonaa.P
