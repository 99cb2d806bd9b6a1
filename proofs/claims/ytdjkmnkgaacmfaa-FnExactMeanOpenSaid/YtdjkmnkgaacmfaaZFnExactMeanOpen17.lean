/- Parts of the proof of FnExactMeanOpen: plain Lean functions of Go functions, and that the calls come to what they say; no condition beyond those that each theorem names. -/
import Derived.Test.YtdjkmnkgaacmfaaZFnExactMeanOpen16
import Derived.Test.YtdjkmnkgaacmfaaZFnExactMeanOpen13
import Derived.Test.YtdjkmnkgaacmfaaZFnExactMeanOpen14
import Derived.Test.YtdjkmnkgaacmfaaZFnExactMeanOpen12
import Derived.Test.YtdjkmnkgaacmfaaZFnExactMeanOpen11
namespace Go.Proofs.Ytdjkmnkgaacmfaa.P
open Go.RowKit Go.Proofs.YtdjkmnkgaacmfaaW.PrintWords Go.Proofs.YtdjkmnkgaacmfaaW.PrintLast Go.Proofs.YtdjkmnkgaacmfaaW.PrintMore
attribute [local go_sem] max2_int min2_int max_two min_two max_three min_three max_four min_four
set_option linter.unusedVariables false
set_option linter.unusedSimpArgs false
def l3copy_T1 : Bool × List (List Nat × List Nat):=(true,[([],[]),([],[]),([1],[1]),([0,2],[0,2]),([],[]),([],[]),([5],[5]),([4,6,3],[4,6]),([],[]),([],[]),([9],[9]),([8,10,7],[8,10]),([3,7,11],[3,7,11]),([],[]),([13,12,11,0,1,2,3,4,5,6,7,8,9,10,11,12,13],[12,13])])
def l3copy_B1 : List Nat:=[0,0,2,7,0,0,32,127,0,0,512,2047,4095,0,16383]
theorem l3copy_tab1 : rtab .any (opsOf Try.f34 1) = l3copy_T1:=by kernel_rfl
theorem l3copy_bits1 : waitsOk l3copy_T1.2 l3copy_B1 = true:=by kernel_rfl
def l3copy_T5 : Bool × List (List Nat × List Nat):=(true,[([],[]),([0],[0]),([],[]),([],[]),([3],[3]),([],[]),([4,5],[4,5]),([6],[6]),([2,7],[2,7]),([8],[8]),([1,9,8],[1,9]),([0,1,2,3,4,5,6,7,8,9,10],[]),([11,10,10,0,1,2,3,4,5,6,7,8,9,10],[10,11])])
def l3copy_B5 : List Nat:=[0,1,0,0,8,0,56,120,252,508,1023,2047,4095]
theorem l3copy_tab5 : rtab .any (opsOf Try.f34 5) = l3copy_T5:=by kernel_rfl
theorem l3copy_bits5 : waitsOk l3copy_T5.2 l3copy_B5 = true:=by kernel_rfl
theorem plain_ {P : Program} {ops : Array Oper} {rest : List Oper} {o : Oper} {a : Act} {Q : Exit → Act → World → Prop} {W : World} (hgd : o.guard = none) (h : ∀ Kc : Act → World → Prop,(∀ a' w',wpList P ops Q rest a' w' → Kc a' w') → if Region.wanted o (yielded ops a.tmps) = true then Oper.wp P o a W Kc Q else Kc (a.put o.dst undef) W) : wpList P ops Q (o :: rest) a W:=by
  refine wpList_plain hgd fun K hK=>?_
  have h1:=h K hK
  rwa [if_pos (wanted_none _ hgd)] at h1
structure K3 (wf w : World) (g1 g2 g3 : Nat) (a0 a1 a2 a3 a4 u0 u1 u2 u3 u4 : Value) (ok : Nat → Prop) (ps : List S59) (x1 x2 : List Int) (ss : List (List Int)) (x4 : List S69) (W : World) : Prop where
  b1 : W.heap[g1]? = some (.cells #[a0,a1,a2,a3,a4] 29 (0,0))
  b2 : W.heap[g2]? = some (.cells #[.slice none 0 0,.slice none 0 0,.slice none 0 0,.slice none 0 0,.slice none 0 0] 29 (0,0))
  b3 : W.heap[g3]? = some (.cells #[u0,u1,u2,u3,u4] 29 (0,0))
  r0 : Kd.R (kP wf) 59 W w.heap.size ok u0 ps
  r1 : Kd.R (Kd.int .i64) 3 W w.heap.size ok u1 x1
  r2 : Kd.R (Kd.int .i64) 3 W w.heap.size ok u2 x2
  r3 : Kd.R (Kd.slice 3 (Kd.int .i64)) 25 W w.heap.size ok u3 ss
  r4 : Kd.R k69 69 W w.heap.size ok u4 x4
  n1 : g1 ≠ g2
  n2 : g1 ≠ g3
  n3 : g2 ≠ g3
  e2 : w.heap.size ≤ g2
  e3 : w.heap.size ≤ g3
  bel : Below w.heap.size w W
section
variable {wf w W W' : World} {g1 g2 g3 : Nat} {a0 a1 a2 a3 a4 u0 u1 u2 u3 u4 : Value} {ok : Nat → Prop} {ps : List S59} {x1 x2 : List Int} {ss : List (List Int)} {x4 : List S69}
theorem K3.below (h : K3 wf w g1 g2 g3 a0 a1 a2 a3 a4 u0 u1 u2 u3 u4 ok ps x1 x2 ss x4 W) (hb : Below W.heap.size W W') : K3 wf w g1 g2 g3 a0 a1 a2 a3 a4 u0 u1 u2 u3 u4 ok ps x1 x2 ss x4 W' :=
  ⟨blk_below h.b1 hb,blk_below h.b2 hb,blk_below h.b3 hb,Kd.R_below h.r0 hb,Kd.R_below h.r1 hb,Kd.R_below h.r2 hb,Kd.R_below h.r3 hb,Kd.R_below h.r4 hb,h.n1,h.n2,h.n3,h.e2,h.e3,below_step h.bel hb⟩
theorem K3.any (h : K3 wf w g1 g2 g3 a0 a1 a2 a3 a4 u0 u1 u2 u3 u4 ok ps x1 x2 ss x4 W) : K3 wf w g1 g2 g3 a0 a1 a2 a3 a4 u0 u1 u2 u3 u4 (fun _=>True) ps x1 x2 ss x4 W :=
  ⟨h.b1,h.b2,h.b3,Kd.R_mono h.r0 (fun _ _=>trivial),Kd.R_mono h.r1 (fun _ _=>trivial),Kd.R_mono h.r2 (fun _ _=>trivial),Kd.R_mono h.r3 (fun _ _=>trivial),Kd.R_mono h.r4 (fun _ _=>trivial),h.n1,h.n2,h.n3,h.e2,h.e3,h.bel⟩
theorem K3.elder (h : K3 wf w g1 g2 g3 a0 a1 a2 a3 a4 u0 u1 u2 u3 u4 (fun _=>True) ps x1 x2 ss x4 W) (g4 : Nat) (hg : W.heap.size ≤ g4) : K3 wf w g1 g2 g3 a0 a1 a2 a3 a4 u0 u1 u2 u3 u4 (fun k=>k ≠ g4) ps x1 x2 ss x4 W ∧ g1 ≠ g4 ∧ g2 ≠ g4 ∧ g3 ≠ g4 ∧ w.heap.size ≤ g4:=by
  have l1:=blk_lt h.b1
  have l2:=blk_lt h.b2
  have l3:=blk_lt h.b3
  have l4:=h.bel.size
  exact ⟨⟨h.b1,h.b2,h.b3,Kd.R_mono (Kd.R_elderB h.r0 g4 hg) (fun _ hk=>hk.2),Kd.R_mono (Kd.R_elderB h.r1 g4 hg) (fun _ hk=>hk.2),Kd.R_mono (Kd.R_elderB h.r2 g4 hg) (fun _ hk=>hk.2),Kd.R_mono (Kd.R_elderB h.r3 g4 hg) (fun _ hk=>hk.2),Kd.R_mono (Kd.R_elderB h.r4 g4 hg) (fun _ hk=>hk.2),h.n1,h.n2,h.n3,h.e2,h.e3,h.bel⟩,by omega,by omega,by omega,by omega⟩
theorem K3.put {g4 : Nat} (h : K3 wf w g1 g2 g3 a0 a1 a2 a3 a4 u0 u1 u2 u3 u4 (fun k=>k ≠ g4) ps x1 x2 ss x4 W) (hg : g1 ≠ g4 ∧ g2 ≠ g4 ∧ g3 ≠ g4 ∧ w.heap.size ≤ g4) (j : Nat) (v : Value) : K3 wf w g1 g2 g3 a0 a1 a2 a3 a4 u0 u1 u2 u3 u4 (fun k=>k ≠ g4) ps x1 x2 ss x4 (W.setCell ⟨g4,j,none⟩ v) :=
  ⟨blk_far (p:=⟨g4,j,none⟩) h.b1 hg.1 v,blk_far (p:=⟨g4,j,none⟩) h.b2 hg.2.1 v,blk_far (p:=⟨g4,j,none⟩) h.b3 hg.2.2.1 v,Kd.R_far (p:=⟨g4,j,none⟩) h.r0 (fun _ hk=>hk) v,Kd.R_far (p:=⟨g4,j,none⟩) h.r1 (fun _ hk=>hk) v,Kd.R_far (p:=⟨g4,j,none⟩) h.r2 (fun _ hk=>hk) v,Kd.R_far (p:=⟨g4,j,none⟩) h.r3 (fun _ hk=>hk) v,Kd.R_far (p:=⟨g4,j,none⟩) h.r4 (fun _ hk=>hk) v,h.n1,h.n2,h.n3,h.e2,h.e3,below_set h.bel hg.2.2.2⟩
theorem kP_25 (wf : World) : ∀ q,q ∈ 59 :: (kP wf).E → q ≠ 25:=show ∀ q,q ∈ [59,3,61,61,61] → q ≠ 25 by decide
theorem K3.over3 {u3' : Value} {ss' : List (List Int)} (h : K3 wf w g1 g2 g3 a0 a1 a2 a3 a4 u0 u1 u2 u3 u4 (fun _=>True) ps x1 x2 ss x4 W) (hg : W.grownBy W' u3.ownBlock) (ho : Kd.R (Kd.slice 3 (Kd.int .i64)) 25 W' w.heap.size (fun _=>True) u3' ss') (hb : Below w.heap.size w W') :
    W'.heap[g1]? = some (.cells #[a0,a1,a2,a3,a4] 29 (0,0)) ∧ W'.heap[g3]? = some (.cells #[u0,u1,u2,u3,u4] 29 (0,0)) ∧ K3 wf w g1 g2 g3 a0 a1 a2 a3 a4 u0 u1 u2 u3' u4 (fun _=>True) ps x1 x2 ss' x4 (W'.setCell ⟨g3,3,none⟩ u3'):=by
  have b1:=blk_grown h.b1 hg (Kd.R_ne h.r3 h.b1 (by decide))
  have b2:=blk_grown h.b2 hg (Kd.R_ne h.r3 h.b2 (by decide))
  have b3:=blk_grown h.b3 hg (Kd.R_ne h.r3 h.b3 (by decide))
  have ty:=Kd.R_typed h.r3
  exact ⟨b1,b3,blk_far (p:=⟨g3,3,none⟩) b1 h.n2 _,blk_far (p:=⟨g3,3,none⟩) b2 h.n3 _,bp5_3_ b3,Kd.R_set (Kd.R_over' h.r0 ty (kP_25 wf) hg) b3 (kP_29 wf) 3 _,Kd.R_set (Kd.R_over' h.r1 ty (by decide) hg) b3 (by decide) 3 _,Kd.R_set (Kd.R_over' h.r2 ty (by decide) hg) b3 (by decide) 3 _,Kd.R_set ho b3 (by decide) 3 _,Kd.R_set (Kd.R_over' h.r4 ty (by decide) hg) b3 (by decide) 3 _,h.n1,h.n2,h.n3,h.e2,h.e3,below_set hb h.e3⟩
theorem K3.over0 {u0' : Value} {ps' : List S59} {g4 : Nat} (h : K3 wf w g1 g2 g3 a0 a1 a2 a3 a4 u0 u1 u2 u3 u4 (fun k=>k ≠ g4) ps x1 x2 ss x4 W) (hg : W.grownBy W' u0.ownBlock) (ho : Kd.R (kP wf) 59 W' w.heap.size (fun k=>k ≠ g4) u0' ps') (hb : Below w.heap.size w W') :
    W'.heap[g3]? = some (.cells #[u0,u1,u2,u3,u4] 29 (0,0)) ∧ K3 wf w g1 g2 g3 a0 a1 a2 a3 a4 u0' u1 u2 u3 u4 (fun _=>True) ps' x1 x2 ss x4 (W'.setCell ⟨g3,0,none⟩ u0'):=by
  have b1:=blk_grown h.b1 hg (Kd.R_ne h.r0 h.b1 (by decide))
  have b2:=blk_grown h.b2 hg (Kd.R_ne h.r0 h.b2 (by decide))
  have b3:=blk_grown h.b3 hg (Kd.R_ne h.r0 h.b3 (by decide))
  have ty:=Kd.R_typed h.r0
  have k : K3 wf w g1 g2 g3 a0 a1 a2 a3 a4 u0' u1 u2 u3 u4 (fun k=>k ≠ g4) ps' x1 x2 ss x4 (W'.setCell ⟨g3,0,none⟩ u0'):=⟨blk_far (p:=⟨g3,0,none⟩) b1 h.n2 _,blk_far (p:=⟨g3,0,none⟩) b2 h.n3 _,bp5_0_ b3,Kd.R_set ho b3 (kP_29 wf) 0 _,Kd.R_set (Kd.R_over' h.r1 ty (by decide) hg) b3 (by decide) 0 _,Kd.R_set (Kd.R_over' h.r2 ty (by decide) hg) b3 (by decide) 0 _,Kd.R_set (Kd.R_over' h.r3 ty (by decide) hg) b3 (by decide) 0 _,Kd.R_set (Kd.R_over' h.r4 ty (by decide) hg) b3 (by decide) 0 _,h.n1,h.n2,h.n3,h.e2,h.e3,below_set hb h.e3⟩
  exact ⟨b3,k.any⟩
end
def gC (n : Nat) (x1 x2 : List Int) (x4 : List S69) (m i : Nat) (vs : Nat → Value) (W : World) (v : Value) : Prop :=
  match i with
  | 0=>∃ g,v = .slice (some ⟨g,0,none⟩) 0 0 ∧ Kd.R (Kd.int .i64) 3 W n (fun _=>True) v []
  | 4=>∃ g,v = .slice (some ⟨g,0,none⟩) 0 0 ∧ Kd.R (Kd.int .i64) 3 W n (fun _=>True) v []
  | 8=>∃ g,v = .slice (some ⟨g,0,none⟩) 0 0 ∧ Kd.R k69 69 W n (fun _=>True) v []
  | 3=>Kd.R (Kd.int .i64) 3 W n (fun _=>True) v x1
  | 7=>Kd.R (Kd.int .i64) 3 W n (fun _=>True) v x2
  | 11=>Kd.R k69 69 W n (fun _=>True) v x4
  | 12=>v = .agg #[.slice none 0 0,vs 3,vs 7,.slice none 0 0,vs 11]
  | _=>∃ gb,v = .pointer (some ⟨gb,0,none⟩) ∧ m ≤ gb ∧ W.heap[gb]? = some (.cells nils5 29 (0,0))
theorem gC_mono (n : Nat) (x1 x2 : List Int) (x4 : List S69) (m i : Nat) (vs : Nat → Value) (W W' : World) (v : Value) (hb : Below W.heap.size W W') (h : gC n x1 x2 x4 m i vs W v) : gC n x1 x2 x4 m i vs W' v:=by
  unfold gC at h ⊢
  split at h
  · obtain ⟨g,e,h⟩:=h;exact ⟨g,e,Kd.R_below h hb⟩
  · obtain ⟨g,e,h⟩:=h;exact ⟨g,e,Kd.R_below h hb⟩
  · obtain ⟨g,e,h⟩:=h;exact ⟨g,e,Kd.R_below h hb⟩
  · exact Kd.R_below h hb
  · exact Kd.R_below h hb
  · exact Kd.R_below h hb
  · exact h
  · obtain ⟨g,e,hg,h⟩:=h;exact ⟨g,e,hg,blk_below h hb⟩
def gG (n : Nat) (x : List Int) (i : Nat) (vs : Nat → Value) (W : World) (v : Value) : Prop :=
  match i with
  | 2=>∃ g,v = .slice (some ⟨g,0,none⟩) 0 0 ∧ Kd.R (Kd.int .i64) 3 W n (fun _=>True) v []
  | _=>Kd.R (Kd.int .i64) 3 W n (fun _=>True) v x
theorem gG_mono (n : Nat) (x : List Int) (i : Nat) (vs : Nat → Value) (W W' : World) (v : Value) (hb : Below W.heap.size W W') (h : gG n x i vs W v) : gG n x i vs W' v:=by
  unfold gG at h ⊢
  split at h
  · obtain ⟨g,e,h⟩:=h;exact ⟨g,e,Kd.R_below h hb⟩
  · exact Kd.R_below h hb
structure Len3 (x0 : List S59) (x1 x2 : List Int) (x3 : List (List Int)) (x4 : List S69) : Prop where
  l0 : x0.length ≤ 1000000000
  l1 : x1.length ≤ 1000000000
  l2 : x2.length ≤ 1000000000
  l3 : x3.length ≤ 1000000000
  l4 : x4.length ≤ 1000000000
  p0 : ∀ x ∈ x0,x.f0.length ≤ 1000000000
  p1 : ∀ x ∈ x0,x.f1.length ≤ 1000000000
  p3 : ∀ x ∈ x3,x.length ≤ 1000000000
theorem at_Pf {wf w : World} {A : Option Addr} {n : Nat} {xs : List S59} (h : Kd.C (kPf wf) w A n xs) (i : Int) (h0 : 0 ≤ i) (h1 : i < n) : ∃ ad A0 c0 A1 c1,A = some ad ∧ w.cell? (ad.add (i.toNat * 5)) = some (.slice A0 (rd_T59 xs i).f0.length c0) ∧ w.cell? ⟨(ad.add (i.toNat * 5)).block,(ad.add (i.toNat * 5)).off + 1,none⟩ = some (.slice A1 (rd_T59 xs i).f1.length c1) ∧ w.cell? ⟨(ad.add (i.toNat * 5)).block,(ad.add (i.toNat * 5)).off + 2,none⟩ = some (.int .i64 (rd_T59 xs i).f2) ∧ w.cell? ⟨(ad.add (i.toNat * 5)).block,(ad.add (i.toNat * 5)).off + 3,none⟩ = some (.int .i64 (rd_T59 xs i).f3) ∧ w.cell? ⟨(ad.add (i.toNat * 5)).block,(ad.add (i.toNat * 5)).off + 4,none⟩ = some (.int .i64 (rd_T59 xs i).f4) ∧ (rd_T59 xs i).f0.length ≤ c0 ∧ (Kd.int .i64).C w A0 (rd_T59 xs i).f0.length (rd_T59 xs i).f0 ∧ (rd_T59 xs i).f1.length ≤ c1 ∧ (Kd.fixed k61 wf).C w A1 (rd_T59 xs i).f1.length (rd_T59 xs i).f1:=by
  obtain ⟨ad,c,e,_,hK,hc0⟩:=Kd.C_get h z59 i h0 h1
  have hc : ∀ j u,c[j]? = some u → w.cell? (ad.add (i.toNat * 5 + j)) = some u:=hc0
  obtain ⟨A0,c0,A1,c1,rfl,l0,g0,l1,g1⟩:=kPf_open hK
  exact ⟨ad,A0,c0,A1,c1,e,hc 0 _ rfl,by rw [← add_field _ _ 1 (by omega)];exact hc 1 _ rfl,by rw [← add_field _ _ 2 (by omega)];exact hc 2 _ rfl,by rw [← add_field _ _ 3 (by omega)];exact hc 3 _ rfl,by rw [← add_field _ _ 4 (by omega)];exact hc 4 _ rfl,l0,g0,l1,g1⟩
set_option maxHeartbeats 8000000 in
set_option maxRecDepth 100000 in
theorem l3copy_says (A0 : Option Addr) (c0 : Nat) (x0 : List S59) (A1 : Option Addr) (c1 : Nat) (x1 : List Int) (A2 : Option Addr) (c2 : Nat) (x2 : List Int) (A3 : Option Addr) (c3 : Nat) (x3 : List (List Int)) (A4 : Option Addr) (c4 : Nat) (x4 : List S69) (wf w : World) (h0 : Kd.C (kPf wf) w A0 x0.length x0) (h1 : Kd.C (Kd.int .i64) w A1 x1.length x1) (h2 : Kd.C (Kd.int .i64) w A2 x2.length x2) (h3 : Kd.C (Kd.slice 3 (Kd.int .i64)) w A3 x3.length x3) (h4 : Kd.C k69 w A4 x4.length x4) (hl : Len3 x0 x1 x2 x3 x4) :
    Calls Try.prog 34 #[.agg #[.slice A0 x0.length c0,.slice A1 x1.length c1,.slice A2 x2.length c2,.slice A3 x3.length c3,.slice A4 x4.length c4]] w fun e w'=>∃ v0 v1 v2 v3 v4 : Value,e = .returned (.agg #[v0,v1,v2,v3,v4]) ∧ RO (kP wf) w.heap.size w' x0 x1 x2 x3 x4 v0 v1 v2 v3 v4 ∧ Below w.heap.size w w':=by
  have hu29:=Try.underlying29
  have hu59:=Try.underlying59
  have HR0:=Aside0.mk h0
  have HR1:=Aside0.mk h1
  have HR2:=Aside0.mk h2
  have HR3:=Aside0.mk h3
  have HR4:=Aside0.mk h4
  have HL:=Aside0.mk hl
  clear h0 h1 h2 h3 h4 hl
  have HB:=Aside0.mk (Below.refl w.heap.size w)
  go_enter Try.func34,Try.ntmps34
  go_wp2_with (first | ((with_reducible refine gate_dst (N:=1) rfl ?_);refine box_event ?hg (N:=1) ?hd (cs:=#[.slice A0 x0.length c0,.slice A1 x1.length c1,.slice A2 x2.length c2,.slice A3 x3.length c3,.slice A4 x4.length c4]) (t:=29) ?hr ?_;(case hd=>rfl);(case hg=>rfl);(case hr=>first | (go_simp;done) | (go_simp;rfl));intro g1 hg w5 hbox hb;have n0_:=Aside0.mk (below_step (q0_ HB) hb);have n1_:=Aside0.mk (hbox);have GE1:=Aside0.mk ((by rw [hg];exact (below_size (q0_ HB)) : w.heap.size ≤ g1));clear HB;have HB:=n0_;have BK1:=n1_;clear n0_ n1_;clear hb hbox hg) | ((with_reducible refine gate_dst (N:=2) rfl ?_);refine box_event ?hg (N:=2) ?hd (cs:=#[.slice none 0 0,.slice none 0 0,.slice none 0 0,.slice none 0 0,.slice none 0 0]) (t:=29) ?hr ?_;(case hd=>rfl);(case hg=>rfl);(case hr=>first | (go_simp;done) | (go_simp;rfl));intro g2 hg w6 hbox hb;have n0_:=Aside0.mk (blk_below BK1.out hb);have n1_:=Aside0.mk (below_step HB.out hb);have n2_:=Aside0.mk (hbox);have GE2:=Aside0.mk ((by rw [hg];exact below_size HB.out) : w.heap.size ≤ g2);have N12:=Aside0.mk ((by rw [hg];exact Nat.ne_of_lt (blk_lt BK1.out)) : g1 ≠ g2);clear BK1 HB;have BK1:=n0_;have HB:=n1_;have BK2:=n2_;clear n0_ n1_ n2_;clear hb hbox hg))
  have m1_:=Aside0.mk (blk_drew BK1.out)
  have m2_:=Aside0.mk (blk_drew BK2.out)
  have m7_:=Aside0.mk (below_drew1 HB.out)
  clear BK1 BK2 HB
  refine start_ (n:=15) (S:=fun w'=>w'.cell? ⟨g1,1,none⟩ = some (.slice A1 x1.length c1) ∧ w'.cell? ⟨g1,2,none⟩ = some (.slice A2 x2.length c2) ∧ w'.cell? ⟨g1,4,none⟩ = some (.slice A4 x4.length c4)) (ds:=[14]) #[false,false,false,false,false,false,false,false,false,false,false,false,false,false,false] (by kernel_rfl) rfl rfl ⟨(blk_cell m1_.out 1).trans rfl,(blk_cell m1_.out 2).trans rfl,(blk_cell m1_.out 4).trans rfl⟩ (fun hHeld=>?_)
  refine with_tabW l3copy_tab1 l3copy_bits1 (fun HT_ HW_=>?_)
  generalize w6.drew = w7 at m1_ m2_ m7_ hHeld ⊢
  refine pure_ (i:=1) (N:=some 8) (v:=?_) (a':=?_) #[false,true,false,false,false,false,false,false,false,false,false,false,false,false,false] rfl rfl (any_of HT_.out (by kernel_rfl)) (fun _ _ _ h=>h) (Or.inl ⟨by rfl,?_⟩) ?_ ?_
  rotate_left
  · intro w'
    go_simp
    with_reducible rfl
  rotate_left
  · (try simp only [Act.put,List.setIfInBounds_toArray,List.set_cons_zero,List.set_cons_succ,i64_w,i32_w])
    rfl
  refine pure_ (i:=5) (N:=some 12) (v:=?_) (a':=?_) #[false,true,false,false,false,true,false,false,false,false,false,false,false,false,false] rfl rfl (any_of HT_.out (by kernel_rfl)) (fun _ _ _ h=>h) (Or.inl ⟨by rfl,?_⟩) ?_ ?_
  rotate_left
  · intro w'
    go_simp
    with_reducible rfl
  rotate_left
  · (try simp only [Act.put,List.setIfInBounds_toArray,List.set_cons_zero,List.set_cons_succ,i64_w,i32_w])
    rfl
  refine pure_ (i:=9) (N:=some 16) (v:=?_) (a':=?_) #[false,true,false,false,false,true,false,false,false,true,false,false,false,false,false] rfl rfl (any_of HT_.out (by kernel_rfl)) (fun _ _ _ h=>h) (Or.inl ⟨by rfl,?_⟩) ?_ ?_
  rotate_left
  · intro w'
    go_simp
    with_reducible rfl
  rotate_left
  · (try simp only [Act.put,List.setIfInBounds_toArray,List.set_cons_zero,List.set_cons_succ,i64_w,i32_w])
    rfl
  refine take_ (i:=2) (N:=some 9) (v:=?_) (a':=?_) #[false,true,true,false,false,true,false,false,false,true,false,false,false,false,false] rfl rfl (take_ofW HT_.out HW_.out (by kernel_rfl)) (fun _ _ _ h=>h) (Or.inl ⟨by rfl,?_⟩) hHeld ?_ ?_
  rotate_left
  · rintro w' ⟨s0,s1,s2⟩
    go_simp
    with_reducible rfl
  rotate_left
  · (try simp only [Act.put,List.setIfInBounds_toArray,List.set_cons_zero,List.set_cons_succ,i64_w,i32_w])
    rfl
  refine take_ (i:=6) (N:=some 13) (v:=?_) (a':=?_) #[false,true,true,false,false,true,true,false,false,true,false,false,false,false,false] rfl rfl (take_ofW HT_.out HW_.out (by kernel_rfl)) (fun _ _ _ h=>h) (Or.inl ⟨by rfl,?_⟩) hHeld ?_ ?_
  rotate_left
  · rintro w' ⟨s0,s1,s2⟩
    go_simp
    with_reducible rfl
  rotate_left
  · (try simp only [Act.put,List.setIfInBounds_toArray,List.set_cons_zero,List.set_cons_succ,i64_w,i32_w])
    rfl
  refine take_ (i:=10) (N:=some 17) (v:=?_) (a':=?_) #[false,true,true,false,false,true,true,false,false,true,true,false,false,false,false] rfl rfl (take_ofW HT_.out HW_.out (by kernel_rfl)) (fun _ _ _ h=>h) (Or.inl ⟨by rfl,?_⟩) hHeld ?_ ?_
  rotate_left
  · rintro w' ⟨s0,s1,s2⟩
    go_simp
    with_reducible rfl
  rotate_left
  · (try simp only [Act.put,List.setIfInBounds_toArray,List.set_cons_zero,List.set_cons_succ,i64_w,i32_w])
    rfl
  refine grow_ [(0,7),(3,10),(4,11),(7,14),(8,15),(11,18),(12,19),(13,3)] #[true,true,true,true,true,true,true,true,true,true,true,true,true,true,false] 68 rfl (by kernel_rfl) (fuel:=1) rfl (gC w.heap.size x1 x2 x4 w7.heap.size) (gC_mono w.heap.size x1 x2 x4 w7.heap.size) ?cong ?held ?step ?done
  case cong =>
    intro g hg oi hoi vs vs' w8 v hq h
    simp only [List.mem_cons,List.not_mem_nil,or_false] at hg
    rcases hg with rfl | rfl | rfl | rfl | rfl | rfl | rfl | rfl
    · exact h
    · exact h
    · exact h
    · exact h
    · exact h
    · exact h
    · obtain rfl:=same_ hoi rfl
      have h' : v = .agg #[.slice none 0 0,vs 3,vs 7,.slice none 0 0,vs 11]:=h
      show v = .agg #[.slice none 0 0,vs' 3,vs' 7,.slice none 0 0,vs' 11]
      rw [h',hq 3 (by decide),hq 7 (by decide),hq 11 (by decide)]
    · exact h
  case held =>
    intro W hb
    exact ⟨(hb.cell (World.block_lt_of_cell? _ _ hHeld.1)).trans hHeld.1,(hb.cell (World.block_lt_of_cell? _ _ hHeld.2.1)).trans hHeld.2.1,(hb.cell (World.block_lt_of_cell? _ _ hHeld.2.2)).trans hHeld.2.2⟩
  case step =>
    intro g hg oi hoi a w8 vs hB hdep htm K hK
    have hS : w.heap.size ≤ w8.heap.size:=Nat.le_trans m7_.out.size hB.size
    simp only [List.mem_cons,List.not_mem_nil,or_false] at hg
    rcases hg with rfl | rfl | rfl | rfl | rfl | rfl | rfl | rfl
    · obtain rfl:=same_ hoi rfl
      refine lit0_step (Kd.int .i64) w.heap.size 3 (by rfl) ?hr hS ?_
      case hr=>first | (go_simp;done) | (go_simp;rfl)
      intro g w9 hg ho hb
      exact hK _ w9 hb ⟨g,rfl,ho⟩
    · obtain rfl:=same_ hoi rfl
      obtain ⟨⟨g3,e3,ho3⟩,f3⟩:=hdep (0,7) (by simp) (by decide)
      have f7:=htm 9 (by decide)
      rw [e3] at f3
      have ho4 : Kd.R (Kd.int .i64) 3 w8 w.heap.size (fun _=>True) (.slice (some ⟨g3,0,none⟩) 0 0) []:=by rw [← e3];exact ho3
      refine lit_append_step (Kd.int .i64) w.heap.size (by rfl) (.tmp 7) (.tmp 9) 25 3 (.int .i64 0) 8 rfl Try.underlying25 info3 rfl (show 0 < 1 by decide) g3 x1 A1 x1.length c1 (fun _=>True) f3 (f7.trans rfl) ho4 (Kd.C_below (Kd.C_below HR1.out m7_.out) hB) (fun _ _ h=>h) hS (by have:=HL.out.l1;omega) (by decide) ?_
      intro v1 w9 ho hb
      exact hK v1 w9 hb ho
    · obtain rfl:=same_ hoi rfl
      refine lit0_step (Kd.int .i64) w.heap.size 3 (by rfl) ?hr hS ?_
      case hr=>first | (go_simp;done) | (go_simp;rfl)
      intro g w9 hg ho hb
      exact hK _ w9 hb ⟨g,rfl,ho⟩
    · obtain rfl:=same_ hoi rfl
      obtain ⟨⟨g3,e3,ho3⟩,f3⟩:=hdep (4,11) (by simp) (by decide)
      have f7:=htm 13 (by decide)
      rw [e3] at f3
      have ho4 : Kd.R (Kd.int .i64) 3 w8 w.heap.size (fun _=>True) (.slice (some ⟨g3,0,none⟩) 0 0) []:=by rw [← e3];exact ho3
      refine lit_append_step (Kd.int .i64) w.heap.size (by rfl) (.tmp 11) (.tmp 13) 25 3 (.int .i64 0) 8 rfl Try.underlying25 info3 rfl (show 0 < 1 by decide) g3 x2 A2 x2.length c2 (fun _=>True) f3 (f7.trans rfl) ho4 (Kd.C_below (Kd.C_below HR2.out m7_.out) hB) (fun _ _ h=>h) hS (by have:=HL.out.l2;omega) (by decide) ?_
      intro v1 w9 ho hb
      exact hK v1 w9 hb ho
    · obtain rfl:=same_ hoi rfl
      refine lit0_step k69 w.heap.size 69 (by rfl) ?hr hS ?_
      case hr=>first | (go_simp;done) | (go_simp;rfl)
      intro g w9 hg ho hb
      exact hK _ w9 hb ⟨g,rfl,ho⟩
    · obtain rfl:=same_ hoi rfl
      obtain ⟨⟨g3,e3,ho3⟩,f3⟩:=hdep (8,15) (by simp) (by decide)
      have f7:=htm 17 (by decide)
      rw [e3] at f3
      have ho4 : Kd.R k69 69 w8 w.heap.size (fun _=>True) (.slice (some ⟨g3,0,none⟩) 0 0) []:=by rw [← e3];exact ho3
      refine lit_append_step k69 w.heap.size (by rfl) (.tmp 15) (.tmp 17) 27 69 (.agg #[(.int .i64 0),(.int .i64 0)]) 16 rfl Try.underlying27 info69 rfl (show 0 < 2 by decide) g3 x4 A4 x4.length c4 (fun _=>True) f3 (f7.trans rfl) ho4 (Kd.C_below (Kd.C_below HR4.out m7_.out) hB) (fun _ _ h=>h) hS (by have:=HL.out.l4;omega) (by decide) ?_
      intro v1 w9 ho hb
      exact hK v1 w9 hb ho
    · obtain rfl:=same_ hoi rfl
      obtain ⟨g0,e0⟩:=hdep (3,10) (by simp) (by decide)
      obtain ⟨g1_,e1⟩:=hdep (7,14) (by simp) (by decide)
      obtain ⟨g2_,e2⟩:=hdep (11,18) (by simp) (by decide)
      obtain ⟨B0,d0,f0⟩:=Kd.R_slice (g0 : Kd.R (Kd.int .i64) 3 w8 w.heap.size (fun _=>True) (vs 3) x1)
      obtain ⟨B1,d1,f1⟩:=Kd.R_slice (g1_ : Kd.R (Kd.int .i64) 3 w8 w.heap.size (fun _=>True) (vs 7) x2)
      obtain ⟨B2,d2,f2⟩:=Kd.R_slice (g2_ : Kd.R k69 69 w8 w.heap.size (fun _=>True) (vs 11) x4)
      refine value_ (N:=some 19) (w1:=w8) (v:=.agg #[.slice none 0 0,vs 3,vs 7,.slice none 0 0,vs 11]) (by rfl) rfl ?_ (hK _ _ (Below.refl _ _) rfl)
      simp only at e0 e1 e2
      rw [f0] at e0 ⊢
      rw [f1] at e1 ⊢
      rw [f2] at e2 ⊢
      clear hK hdep htm
      generalize a.eval = ρ at e0 e1 e2 ⊢
      clear hB g0 g1_ g2_ f0 f1 f2
      go_simp
      try simp only [e0,e1,e2]
      try rfl
    · obtain rfl:=same_ hoi rfl
      refine box_step (by rfl) (N:=3) rfl (cs:=nils5) (t:=29) ?hr ?_
      case hr=>first | (go_simp;done) | (go_simp;rfl)
      intro g1 hg1 w9 hbox hb
      exact hK _ w9 hb ⟨g1,rfl,by rw [hg1];exact hB.size,hbox⟩
  case done =>
    intro vs w8 hB hG
    have G3 : Kd.R (Kd.int .i64) 3 w8 w.heap.size (fun _=>True) (vs 3) x1:=hG (3,10) (by simp)
    have G7 : Kd.R (Kd.int .i64) 3 w8 w.heap.size (fun _=>True) (vs 7) x2:=hG (7,14) (by simp)
    have G11 : Kd.R k69 69 w8 w.heap.size (fun _=>True) (vs 11) x4:=hG (11,18) (by simp)
    have G12 : vs 12 = .agg #[.slice none 0 0,vs 3,vs 7,.slice none 0 0,vs 11]:=hG (12,19) (by simp)
    obtain ⟨g3,G13,GW3,hb3⟩:=(hG (13,3) (by simp) : ∃ gb,vs 13 = .pointer (some ⟨gb,0,none⟩) ∧ w7.heap.size ≤ gb ∧ w8.heap[gb]? = some (.cells nils5 29 (0,0)))
    obtain ⟨l0_,e0_,z0_⟩ : ∃ g,vs 0 = .slice (some ⟨g,0,none⟩) 0 0 ∧ Kd.R (Kd.int .i64) 3 w8 w.heap.size (fun _=>True) (vs 0) []:=hG (0,7) (by simp)
    obtain ⟨l4_,e4_,z4_⟩ : ∃ g,vs 4 = .slice (some ⟨g,0,none⟩) 0 0 ∧ Kd.R (Kd.int .i64) 3 w8 w.heap.size (fun _=>True) (vs 4) []:=hG (4,11) (by simp)
    obtain ⟨l8_,e8_,z8_⟩ : ∃ g,vs 8 = .slice (some ⟨g,0,none⟩) 0 0 ∧ Kd.R k69 69 w8 w.heap.size (fun _=>True) (vs 8) []:=hG (8,15) (by simp)
    refine norm_ (a':=?_) ?_ ?_
    rotate_left
    · simp only [puts,List.map_cons,List.map_nil,putAll,Act.put,List.setIfInBounds_toArray,List.set_cons_zero,List.set_cons_succ,G12,G13,e0_,e4_,e8_]
      rfl
    generalize vs 3 = u1 at G3 ⊢
    generalize vs 7 = u2 at G7 ⊢
    generalize vs 11 = u4 at G11 ⊢
    clear e0_ z0_ e4_ z4_ e8_ z8_ G12 G13 hG vs
    obtain ⟨B1,d1,e1⟩:=Kd.R_slice G3
    obtain ⟨B2,d2,e2⟩:=Kd.R_slice G7
    obtain ⟨B4,d4,e4⟩:=Kd.R_slice G11
    subst e1;subst e2;subst e4
    have BK3:=Aside0.mk (show w8.heap[g3]? = some (.cells #[.slice none 0 0,.slice none 0 0,.slice none 0 0,.slice none 0 0,.slice none 0 0] 29 (0,0)) from hb3)
    have N13:=Aside0.mk (show g1 ≠ g3 from by have:=blk_lt m1_.out;omega)
    have N23:=Aside0.mk (show g2 ≠ g3 from by have:=blk_lt m2_.out;omega)
    have GE3:=Aside0.mk (Nat.le_trans m7_.out.size GW3)
    have n1_:=Aside0.mk (blk_below m1_.out hB)
    have n2_:=Aside0.mk (blk_below m2_.out hB)
    have n7_:=Aside0.mk (below_step m7_.out hB)
    have HC:=Aside0.mk G3
    have HR:=Aside0.mk G7
    have HD:=Aside0.mk G11
    clear m1_ m2_ m7_ G3 G7 G11 GW3 hb3 hB hHeld
    refine last_ (i:=14) (N:=none) #[true,true,true,true,true,true,true,true,true,true,true,true,true,true,true] rfl rfl (one_of HT_.out (by kernel_rfl)) (by decide) (fun K hK=>?_)
    obtain ⟨hcz_0,hcz_1,hcz_2,hcz_3,hcz_4,hfz_0,hfz_1,hfz_2,hfz_3,hfz_4⟩:=bz5_ BK3
    refine skip_ (w1:=?_) (by rfl) rfl ?_ ?_
    rotate_left
    · go_simp
      rfl
    refine hK.out _ _ ?_
    clear hK K
    refine done_ (done_of HT_.out (by kernel_rfl)) ?_
    clear HT_ HW_
    try go_wp2
    have kb : K3 wf w g1 g2 g3 (.slice A0 x0.length c0) (.slice A1 x1.length c1) (.slice A2 x2.length c2) (.slice A3 x3.length c3) (.slice A4 x4.length c4) (.slice none 0 0) (.slice B1 x1.length d1) (.slice B2 x2.length d2) (.slice none 0 0) (.slice B4 x4.length d4) (fun _=>True) [] x1 x2 [] x4 (((((w8.setCell ⟨g3,0,none⟩ (.slice none 0 0)).setCell ⟨g3,1,none⟩ (.slice B1 x1.length d1)).setCell ⟨g3,2,none⟩ (.slice B2 x2.length d2)).setCell ⟨g3,3,none⟩ (.slice none 0 0)).setCell ⟨g3,4,none⟩ (.slice B4 x4.length d4)) :=
      ⟨blk_far (p:=⟨g3,4,none⟩) (blk_far (p:=⟨g3,3,none⟩) (blk_far (p:=⟨g3,2,none⟩) (blk_far (p:=⟨g3,1,none⟩) (blk_far (p:=⟨g3,0,none⟩) n1_.out N13.out _) N13.out _) N13.out _) N13.out _) N13.out _,
       blk_far (p:=⟨g3,4,none⟩) (blk_far (p:=⟨g3,3,none⟩) (blk_far (p:=⟨g3,2,none⟩) (blk_far (p:=⟨g3,1,none⟩) (blk_far (p:=⟨g3,0,none⟩) n2_.out N23.out _) N23.out _) N23.out _) N23.out _) N23.out _,
       by apply bp5_4_;apply bp5_3_;apply bp5_2_;apply bp5_1_;apply bp5_0_;exact BK3.out,
       Kd.R_nil _ _ _ _ _,set5_ _ _ _ _ _ HC.out BK3.out (by decide),set5_ _ _ _ _ _ HR.out BK3.out (by decide),Kd.R_nil _ _ _ _ _,set5_ _ _ _ _ _ HD.out BK3.out (by decide),N12.out,N13.out,N23.out,GE2.out,GE3.out,
       below_set (j:=4) (below_set (j:=3) (below_set (j:=2) (below_set (j:=1) (below_set (j:=0) n7_.out GE3.out) GE3.out) GE3.out) GE3.out) GE3.out⟩
    have KB:=Aside0.mk kb
    clear kb n1_ n2_ n7_ BK3 HC HR HD hcz_0 hcz_1 hcz_2 hcz_3 hcz_4 hfz_0 hfz_1 hfz_2 hfz_3 hfz_4
    generalize (((((w8.setCell ⟨g3,0,none⟩ (.slice none 0 0)).setCell ⟨g3,1,none⟩ (.slice B1 x1.length d1)).setCell ⟨g3,2,none⟩ (.slice B2 x2.length d2)).setCell ⟨g3,3,none⟩ (.slice none 0 0)).setCell ⟨g3,4,none⟩ (.slice B4 x4.length d4)) = w9 at KB ⊢
    go_loopg [4] x3.length (fun gg v4 wr=>∃ (kk : Nat) (u : Value) (ys : List (List Int)),kk ≤ x3.length ∧ x3.length - kk ≤ gg ∧ v4 = .int .i64 kk ∧ Aside0 (ys = x3.take kk ∧ ys.length = kk) ∧ Aside0 (K3 wf w g1 g2 g3 (.slice A0 x0.length c0) (.slice A1 x1.length c1) (.slice A2 x2.length c2) (.slice A3 x3.length c3) (.slice A4 x4.length c4) (.slice none 0 0) (.slice B1 x1.length d1) (.slice B2 x2.length d2) u (.slice B4 x4.length d4) (fun _=>True) [] x1 x2 ys x4 wr))
    case atStart=>exact ⟨0,_,[],Nat.zero_le _,by omega,rfl,⟨rfl,rfl⟩,KB⟩
    case round =>
      clear KB
      obtain ⟨kk,uu,ys,hkk,hgk,rfl,HY,KB⟩:=hrel
      obtain ⟨Av,cv,eu⟩:=Kd.R_slice KB.out.r3
      subst eu
      by_cases hlt : kk < x3.length
      · have hltz : decide ((kk : Int) < (x3.length : Int)) = true:=decide_eq_true (by omega)
        have HLT:=Aside0.mk hlt
        have p1 : 0 ≤ (kk : Int):=by omega
        have q1 : (kk : Int) < (x3.length : Int):=by omega
        obtain ⟨ad,Al,cl,ea,hx,hl,hi⟩:=at_L3 HR3.out (kk : Int) p1 q1
        cases ea
        have hgx : rd_L3 x3 (kk : Int) = x3[kk]'hlt:=by simp [rd_L3,List.getD_eq_getElem?_getD,List.getElem?_eq_getElem hlt]
        have hmem : rd_L3 x3 (kk : Int) ∈ x3:=by rw [hgx];exact List.getElem_mem hlt
        have hdrop : x3.take (kk + 1) = ys ++ [rd_L3 x3 (kk : Int)]:=by rw [HY.out.1,hgx,List.take_succ_eq_append_getElem hlt]
        generalize rd_L3 x3 (kk : Int) = x at hx hl hi hmem hdrop
        have HLX:=Aside0.mk hi
        have HFX:=Aside0.mk (HL.out.p3 x hmem)
        have HGR:=Aside0.mk hdrop
        simp only [Int.toNat_natCast] at hx
        have HXO:=Aside0.mk hx
        replace hx:=(KB.out.bel.cell (World.block_lt_of_cell? w _ hx)).trans hx
        clear hi hl hgx hmem hdrop
        replace p1:=eq_true p1
        replace q1:=eq_true q1
        have BZ1:=Aside0.mk KB.out.b1
        obtain ⟨hcz_0,hcz_1,hcz_2,hcz_3,hcz_4,hfz_0,hfz_1,hfz_2,hfz_3,hfz_4⟩:=bz5_ BZ1
        try go_wp2
        have KC:=Aside0.mk (KB.out.below (below_drew1 (Below.refl _ _)))
        clear KB BZ1
        refine start_ (n:=13) (S:=fun w'=>w'.cell? ⟨g3,3,none⟩ = some (.slice Av ys.length cv) ∧ w'.cell? ⟨g1,3,none⟩ = some (.slice (some ad) x3.length c3) ∧ w'.cell? (ad.add kk) = some (.slice Al x.length cl)) (ds:=[12]) #[false,false,false,false,false,false,false,false,false,false,false,false,false] (by kernel_rfl) rfl rfl ⟨(blk_cell KC.out.b3 3).trans rfl,(blk_cell KC.out.b1 3).trans rfl,hx⟩ (fun hHeld=>?_)
        refine with_tabW l3copy_tab5 l3copy_bits5 (fun HT_ HW_=>?_)
        clear hx
        generalize wr.drew = w10 at KC hHeld ⊢
        refine pure_ (i:=0) (N:=some 27) (v:=?_) (a':=?_) #[true,false,false,false,false,false,false,false,false,false,false,false,false] rfl rfl (any_of HT_.out (by kernel_rfl)) (fun _ _ _ h=>h) (Or.inl ⟨by rfl,?_⟩) ?_ ?_
        rotate_left
        · intro w'
          go_simp
          with_reducible rfl
        rotate_left
        · (try simp only [Act.put,List.setIfInBounds_toArray,List.set_cons_zero,List.set_cons_succ,i64_w,i32_w])
          rfl
        refine pure_ (i:=3) (N:=some 30) (v:=?_) (a':=?_) #[true,false,false,true,false,false,false,false,false,false,false,false,false] rfl rfl (any_of HT_.out (by kernel_rfl)) (fun _ _ _ h=>h) (Or.inl ⟨by rfl,?_⟩) ?_ ?_
        rotate_left
        · intro w'
          go_simp
          with_reducible rfl
        rotate_left
        · (try simp only [Act.put,List.setIfInBounds_toArray,List.set_cons_zero,List.set_cons_succ,i64_w,i32_w])
          rfl
        refine pure_ (i:=5) (N:=some 32) (v:=?_) (a':=?_) #[true,false,false,true,false,true,false,false,false,false,false,false,false] rfl rfl (any_of HT_.out (by kernel_rfl)) (fun _ _ _ h=>h) (Or.inl ⟨by rfl,?_⟩) ?_ ?_
        rotate_left
        · intro w'
          go_simp
          with_reducible rfl
        rotate_left
        · (try simp only [Act.put,List.setIfInBounds_toArray,List.set_cons_zero,List.set_cons_succ,i64_w,i32_w])
          rfl
        refine take_ (i:=1) (N:=some 28) (v:=?_) (a':=?_) #[true,true,false,true,false,true,false,false,false,false,false,false,false] rfl rfl (take_ofW HT_.out HW_.out (by kernel_rfl)) (fun _ _ _ h=>h) (Or.inl ⟨by rfl,?_⟩) hHeld ?_ ?_
        rotate_left
        · rintro w' ⟨s0,s1,s2⟩
          go_simp
          with_reducible rfl
        rotate_left
        · (try simp only [Act.put,List.setIfInBounds_toArray,List.set_cons_zero,List.set_cons_succ,i64_w,i32_w])
          rfl
        refine take_ (i:=4) (N:=some 31) (v:=?_) (a':=?_) #[true,true,false,true,true,true,false,false,false,false,false,false,false] rfl rfl (take_ofW HT_.out HW_.out (by kernel_rfl)) (fun _ _ _ h=>h) (Or.inl ⟨by rfl,?_⟩) hHeld ?_ ?_
        rotate_left
        · rintro w' ⟨s0,s1,s2⟩
          go_simp
          with_reducible rfl
        rotate_left
        · (try simp only [Act.put,List.setIfInBounds_toArray,List.set_cons_zero,List.set_cons_succ,i64_w,i32_w])
          rfl
        refine pure_ (i:=6) (N:=some 33) (v:=?_) (a':=?_) #[true,true,false,true,true,true,true,false,false,false,false,false,false] rfl rfl (any_of HT_.out (by kernel_rfl)) (fun _ _ _ h=>h) (Or.inl ⟨by rfl,?_⟩) ?_ ?_
        rotate_left
        · intro w'
          go_simp
          with_reducible rfl
        rotate_left
        · (try simp only [Act.put,List.setIfInBounds_toArray,List.set_cons_zero,List.set_cons_succ,i64_w,i32_w])
          rfl
        refine take_ (i:=7) (N:=some 34) (v:=?_) (a':=?_) #[true,true,false,true,true,true,true,true,false,false,false,false,false] rfl rfl (take_ofW HT_.out HW_.out (by kernel_rfl)) (fun _ _ _ h=>h) (Or.inl ⟨by rfl,?_⟩) hHeld ?_ ?_
        rotate_left
        · rintro w' ⟨s0,s1,s2⟩
          go_simp
          with_reducible rfl
        rotate_left
        · (try simp only [Act.put,List.setIfInBounds_toArray,List.set_cons_zero,List.set_cons_succ,i64_w,i32_w])
          rfl
        refine grow_ [(2,29),(8,35)] #[true,true,true,true,true,true,true,true,true,false,false,false,false] 68 rfl (by kernel_rfl) (fuel:=4) rfl (gG w.heap.size x) (gG_mono w.heap.size x) ?cong ?held ?step ?done
        case cong =>
          intro g hg oi hoi vs vs' w8 v hq h
          simp only [List.mem_cons,List.not_mem_nil,or_false] at hg
          rcases hg with rfl | rfl
          · exact h
          · exact h
        case held =>
          intro W hb
          exact ⟨(hb.cell (World.block_lt_of_cell? _ _ hHeld.1)).trans hHeld.1,(hb.cell (World.block_lt_of_cell? _ _ hHeld.2.1)).trans hHeld.2.1,(hb.cell (World.block_lt_of_cell? _ _ hHeld.2.2)).trans hHeld.2.2⟩
        case step =>
          intro g hg oi hoi a w8 vs hB hdep htm K hK
          have hS : w.heap.size ≤ w8.heap.size:=Nat.le_trans KC.out.bel.size hB.size
          simp only [List.mem_cons,List.not_mem_nil,or_false] at hg
          rcases hg with rfl | rfl
          · obtain rfl:=same_ hoi rfl
            refine lit0_step (Kd.int .i64) w.heap.size 3 (by rfl) ?hr hS ?_
            case hr=>first | (go_simp;done) | (go_simp;rfl)
            intro g w9 hg ho hb
            exact hK _ w9 hb ⟨g,rfl,ho⟩
          · obtain rfl:=same_ hoi rfl
            obtain ⟨⟨g3,e3,ho3⟩,f3⟩:=hdep (2,29) (by simp) (by decide)
            have f7:=htm 34 (by decide)
            rw [e3] at f3
            have ho4 : Kd.R (Kd.int .i64) 3 w8 w.heap.size (fun _=>True) (.slice (some ⟨g3,0,none⟩) 0 0) []:=by rw [← e3];exact ho3
            refine lit_append_step (Kd.int .i64) w.heap.size (by rfl) (.tmp 29) (.tmp 34) 25 3 (.int .i64 0) 8 rfl Try.underlying25 info3 rfl (show 0 < 1 by decide) g3 x Al x.length cl (fun _=>True) f3 (f7.trans rfl) ho4 (Kd.C_below (Kd.C_below HLX.out KC.out.bel) hB) (fun _ _ h=>h) hS (by have:=HFX.out;omega) (by decide) ?_
            intro v1 w9 ho hb
            exact hK v1 w9 hb ho
        case done =>
          intro vs w8 hB hG
          have G8 : Kd.R (Kd.int .i64) 3 w8 w.heap.size (fun _=>True) (vs 8) x:=hG (8,35) (by simp)
          obtain ⟨g3_,e3,hz_⟩ : ∃ g,vs 2 = .slice (some ⟨g,0,none⟩) 0 0 ∧ Kd.R (Kd.int .i64) 3 w8 w.heap.size (fun _=>True) (vs 2) []:=hG (2,29) (by simp)
          refine norm_ (a':=?_) ?_ ?_
          rotate_left
          · simp only [puts,List.map_cons,List.map_nil,putAll,Act.put,List.setIfInBounds_toArray,List.set_cons_zero,List.set_cons_succ,e3]
            rfl
          generalize vs 8 = ub at G8 ⊢
          clear e3 hz_ hG vs
          obtain ⟨Ab,cb,eb⟩:=Kd.R_slice G8
          subst eb
          have HT:=Aside0.mk G8
          have KD:=Aside0.mk (KC.out.below hB)
          clear hHeld hB G8 KC
          refine one_ (i:=9) (N:=some 36) #[true,true,true,true,true,true,true,true,true,true,false,false,false] rfl rfl (one_of HT_.out (by kernel_rfl)) (by decide) (fun K hK=>?_)
          refine value_ (w1:=?_) (v:=?_) (by rfl) rfl ?_ ?_
          rotate_left 2
          · go_simp
            constructor
            · rfl
            · rfl
          have ha:=Aside0.mk (KD.out.below (below_alloc (Below.refl w8.heap.size w8) (.cells #[.slice Ab x.length cb] 25 (0,0))))
          refine hK.out _ _ ⟨(blk_cell ha.out.b3 3).trans rfl,(blk_cell ha.out.b1 3).trans rfl,(ha.out.bel.cell (World.block_lt_of_cell? w _ HXO.out)).trans HXO.out⟩ (fun hHeld=>?_)
          clear hK K
          refine norm_ (a':=?_) ?_ ?_
          rotate_left
          · show Act.put _ (some 36) _ = _
            simp only [Act.put,List.setIfInBounds_toArray,List.set_cons_zero,List.set_cons_succ,i64_w,i32_w]
            rfl
          refine one_ (i:=10) (N:=some 37) #[true,true,true,true,true,true,true,true,true,true,true,false,false] rfl rfl (one_of HT_.out (by kernel_rfl)) (by decide) (fun K hK=>?_)
          refine Kd.R_append_step (Kd.slice 3 (Kd.int .i64)) (w0:=w) w.heap.size (by rfl) (.tmp 28) (.tmp 36) 26 25 (.slice none 0 0) 24 rfl Try.underlying26 info25 rfl (by decide) (by omega) (.slice Av ys.length cv) ys x [.slice Ab x.length cb] (fun _=>True) (fun k_=>True ∧ some k_ ≠ (.slice Av ys.length cv : Value).ownBlock) rfl rfl ?aP (fun _ hk=>hk) (fun _ _=>trivial) KD.out.r3 KD.out.bel KD.out.bel.size ?aL ?_
          case aP=>exact ⟨_,rfl,Kd.R_apart' HT.out (Kd.R_typed KD.out.r3) (by decide)⟩
          case aL=>have:=HL.out.l3;have:=HLT.out;have:=HY.out.2;omega
          intro v1 w9 ho hb hg hat
          obtain ⟨kb1,kb3,kk3⟩:=KD.out.over3 hg ho hb
          have KE:=Aside0.mk kk3
          have KB3:=Aside0.mk kb3
          have KB1:=Aside0.mk kb1
          have KBB:=Aside0.mk hb
          obtain ⟨Az,cz,ez⟩:=Kd.R_slice ho
          subst ez
          clear kk3 kb1 kb3 hg ho hb hat KD HT ha hHeld
          refine hK.out _ _ ⟨(blk_cell KB3.out 3).trans rfl,(blk_cell KB1.out 3).trans rfl,(KBB.out.cell (World.block_lt_of_cell? w _ HXO.out)).trans HXO.out⟩ (fun hHeld=>?_)
          clear hK K
          refine norm_ (a':=?_) ?_ ?_
          rotate_left
          · show Act.put _ (some 37) _ = _
            simp only [Act.put,List.setIfInBounds_toArray,List.set_cons_zero,List.set_cons_succ,i64_w,i32_w]
            rfl
          refine pure_ (i:=11) (N:=some 38) (v:=?_) (a':=?_) #[true,true,true,true,true,true,true,true,true,true,true,true,false] rfl rfl (any_of HT_.out (by kernel_rfl)) (fun _ _ _ h=>h) (Or.inl ⟨by rfl,?_⟩) ?_ ?_
          rotate_left
          · intro w'
            go_simp
            with_reducible rfl
          rotate_left
          · (try simp only [Act.put,List.setIfInBounds_toArray,List.set_cons_zero,List.set_cons_succ,i64_w,i32_w])
            rfl
          refine last_ (i:=12) (N:=none) #[true,true,true,true,true,true,true,true,true,true,true,true,true] rfl rfl (one_of HT_.out (by kernel_rfl)) (by decide) (fun K hK=>?_)
          have hs44 : w9.cell? ⟨g3,3,none⟩ = some (.slice Av ys.length cv):=(blk_cell KB3.out 3).trans rfl
          have hfs44:=blk_frozen KB3.out 3
          refine skip_ (w1:=?_) (by rfl) rfl ?_ ?_
          rotate_left
          · go_simp
            rfl
          refine hK.out _ _ ?_
          clear hK K
          refine done_ (done_of HT_.out (by kernel_rfl)) ?_
          clear HT_ HW_
          try go_wp2
          go_roundg (x3.length - (kk + 1))
          case measure=>omega
          case rel =>
            have el : (ys ++ [x]).length = ys.length + 1:=by simp
            refine ⟨kk + 1,.slice Az (ys.length + 1) cz,ys ++ [x],Nat.succ_le_of_lt HLT.out,Nat.le_refl _,(by rw [wrap_succ (by have:=HL.out.l3;have:=HLT.out;omega)]),⟨HGR.out.symm,by rw [el,HY.out.2]⟩,⟨?_⟩⟩
            have z:=KE.out
            rw [el] at z
            exact z
      · have hltz : decide ((kk : Int) < (x3.length : Int)) = false:=decide_eq_false (by omega)
        have HE:=Aside0.mk (show ys = x3 by rw [HY.out.1,show kk = x3.length by omega,List.take_length])
        have BZ1:=Aside0.mk KB.out.b1
        obtain ⟨hcz_0,hcz_1,hcz_2,hcz_3,hcz_4,hfz_0,hfz_1,hfz_2,hfz_3,hfz_4⟩:=bz5_ BZ1
        try go_wp2
        have HYE:=HE.out
        subst HYE
        clear HY HE hcz_0 hcz_1 hcz_2 hcz_3 hcz_4 hfz_0 hfz_1 hfz_2 hfz_3 hfz_4 BZ1 hltz
        go_loopg [5] x0.length (fun gg v5 wr=>∃ (kk : Nat) (u : Value) (ps : List S59),kk ≤ x0.length ∧ x0.length - kk ≤ gg ∧ v5 = .int .i64 kk ∧ Aside0 (ps = x0.take kk ∧ ps.length = kk) ∧ Aside0 (K3 wf w g1 g2 g3 (.slice A0 x0.length c0) (.slice A1 x1.length c1) (.slice A2 x2.length c2) (.slice A3 ys.length c3) (.slice A4 x4.length c4) u (.slice B1 x1.length d1) (.slice B2 x2.length d2) (.slice Av ys.length cv) (.slice B4 x4.length d4) (fun _=>True) ps x1 x2 ys x4 wr))
        case atStart=>exact ⟨0,_,[],Nat.zero_le _,by omega,rfl,⟨rfl,rfl⟩,KB⟩
        case round =>
          clear KB hkk hgk hlt
          obtain ⟨kk,uu,ps,hkk,hgk,rfl,HY,KB⟩:=hrel
          obtain ⟨Au,cu,eu⟩:=Kd.R_slice KB.out.r0
          subst eu
          by_cases hlt : kk < x0.length
          · have hltz : decide ((kk : Int) < (x0.length : Int)) = true:=decide_eq_true (by omega)
            have HLT:=Aside0.mk hlt
            have p1 : 0 ≤ (kk : Int):=by omega
            have q1 : (kk : Int) < (x0.length : Int):=by omega
            obtain ⟨ad,Ar,cr,At,ct,ea,hx0,hx1,hx2,hx3,hx4,hlr,hir,hlt_,hit⟩:=at_Pf HR0.out (kk : Int) p1 q1
            cases ea
            have hgx : rd_T59 x0 (kk : Int) = x0[kk]'hlt:=by simp [rd_T59,List.getD_eq_getElem?_getD,List.getElem?_eq_getElem hlt]
            have hmem : rd_T59 x0 (kk : Int) ∈ x0:=by rw [hgx];exact List.getElem_mem hlt
            have hdrop : x0.take (kk + 1) = ps ++ [rd_T59 x0 (kk : Int)]:=by rw [HY.out.1,hgx,List.take_succ_eq_append_getElem hlt]
            generalize rd_T59 x0 (kk : Int) = x at hx0 hx1 hx2 hx3 hx4 hlr hir hlt_ hit hmem hdrop
            have HRR:=Aside0.mk hir
            have HRT:=Aside0.mk hit
            have HF0:=Aside0.mk (HL.out.p0 x hmem)
            have HF1:=Aside0.mk (HL.out.p1 x hmem)
            have HGR:=Aside0.mk hdrop
            simp only [Int.toNat_natCast] at hx0 hx1 hx2 hx3 hx4
            replace hx0:=(KB.out.bel.cell (World.block_lt_of_cell? w _ hx0)).trans hx0
            replace hx1:=(KB.out.bel.cell (World.block_lt_of_cell? w _ hx1)).trans hx1
            replace hx2:=(KB.out.bel.cell (World.block_lt_of_cell? w _ hx2)).trans hx2
            replace hx3:=(KB.out.bel.cell (World.block_lt_of_cell? w _ hx3)).trans hx3
            replace hx4:=(KB.out.bel.cell (World.block_lt_of_cell? w _ hx4)).trans hx4
            clear hlr hir hlt_ hit hgx hmem hdrop
            replace p1:=eq_true p1
            replace q1:=eq_true q1
            have BZ1:=Aside0.mk KB.out.b1
            obtain ⟨hcz_0,hcz_1,hcz_2,hcz_3,hcz_4,hfz_0,hfz_1,hfz_2,hfz_3,hfz_4⟩:=bz5_ BZ1
            go_wp2_with (first | ((with_reducible refine gate_dst (N:=6) rfl ?_);refine box_event ?hg (N:=6) ?hd (cs:=#[.slice none 0 0,.slice none 0 0,.int .i64 0,.int .i64 0,.int .i64 0]) (t:=59) ?hr ?_;(case hd=>rfl);(case hg=>rfl);(case hr=>first | (go_simp;done) | (go_simp;rfl));intro g4 hg w11 hbox hb;have HG4:=Aside0.mk (KB.out.elder g4 (Nat.le_of_eq hg.symm)).2;have n0_:=Aside0.mk ((KB.out.elder g4 (Nat.le_of_eq hg.symm)).1.below hb);have BK4:=Aside0.mk hbox;clear KB hb hbox hg hx0 hx1 hx2 hx3 hx4 hcz_0 hcz_1 hcz_2 hcz_3 hcz_4 hfz_0 hfz_1 hfz_2 hfz_3 hfz_4 BZ1;have KB:=n0_;clear n0_;obtain ⟨hcz_0,hcz_1,hcz_2,hcz_3,hcz_4,hfz_0,hfz_1,hfz_2,hfz_3,hfz_4⟩:=bz5_ BK4) | ((with_reducible refine gate_dst (N:=51) rfl ?_);refine plain_ ?hg (fun K hK=>?_);(case hg=>rfl);refine lit0_step (Kd.int .i64) w.heap.size 3 (by rfl) ?hr ?hs ?_;(case hr=>first | (go_simp;done) | (go_simp;rfl));(case hs=>exact (((((KB.out.put HG4.out 0 _).put HG4.out 1 _).put HG4.out 2 _).put HG4.out 3 _).put HG4.out 4 _).bel.size);intro gl w12 hgl ho hb;refine hK _ _ ?_;clear hK K;have n0_:=Aside0.mk ((((((KB.out.put HG4.out 0 _).put HG4.out 1 _).put HG4.out 2 _).put HG4.out 3 _).put HG4.out 4 _).below hb);have n1_:=Aside0.mk (show w12.heap[g4]? = some (.cells #[.slice Ar x.f0.length cr,.slice At x.f1.length ct,.int .i64 x.f2,.int .i64 x.f3,.int .i64 x.f4] 59 (0,0)) from blk_below (by apply bp5_4_;apply bp5_3_;apply bp5_2_;apply bp5_1_;apply bp5_0_;exact BK4.out) hb);have HO:=Aside0.mk ho;clear KB BK4 ho hb hgl hcz_0 hcz_1 hcz_2 hcz_3 hcz_4 hfz_0 hfz_1 hfz_2 hfz_3 hfz_4;have KB:=n0_;have BK4:=n1_;clear n0_ n1_;obtain ⟨hcz_0,hcz_1,hcz_2,hcz_3,hcz_4,hfz_0,hfz_1,hfz_2,hfz_3,hfz_4⟩:=bz5_ BK4) | ((with_reducible refine gate_dst (N:=54) rfl ?_);refine plain_ ?hg (fun K hK=>?_);(case hg=>rfl);refine lit_append_step (Kd.int .i64) w.heap.size (by rfl) (.tmp 51) (.tmp 53) 25 3 (.int .i64 0) 8 rfl Try.underlying25 info3 rfl (by decide) gl x.f0 Ar x.f0.length cr (fun _=>True) rfl rfl HO.out (Kd.C_below HRR.out KB.out.bel) (fun _ _ h=>h) KB.out.bel.size (by have:=HF0.out;omega) (by decide) ?_;intro va w13 ho hb;refine hK _ _ ?_;clear hK K;have n0_:=Aside0.mk (KB.out.below hb);have n1_:=Aside0.mk (blk_below BK4.out hb);have HA:=Aside0.mk ho;clear KB BK4 HO ho hb hcz_0 hcz_1 hcz_2 hcz_3 hcz_4 hfz_0 hfz_1 hfz_2 hfz_3 hfz_4;have KB:=n0_;have BK4:=n1_;clear n0_ n1_;obtain ⟨Aa,ca,ea⟩:=Kd.R_slice HA.out;subst ea;obtain ⟨hcz_0,hcz_1,hcz_2,hcz_3,hcz_4,hfz_0,hfz_1,hfz_2,hfz_3,hfz_4⟩:=bz5_ BK4) | ((with_reducible refine gate_dst (N:=56) rfl ?_);refine plain_ ?hg (fun K hK=>?_);(case hg=>rfl);refine lit0_step (Kd.fixed k61 wf) w.heap.size 61 (by rfl) ?hr ?hs ?_;(case hr=>first | (go_simp;done) | (go_simp;rfl));(case hs=>exact (KB.out.put HG4.out 0 _).bel.size);intro gl w14 hgl ho hb;refine hK _ _ ?_;clear hK K;have n0_:=Aside0.mk ((KB.out.put HG4.out 0 _).below hb);have n1_:=Aside0.mk (show w14.heap[g4]? = some (.cells #[.slice Aa x.f0.length ca,.slice At x.f1.length ct,.int .i64 x.f2,.int .i64 x.f3,.int .i64 x.f4] 59 (0,0)) from blk_below (bp5_0_ BK4.out) hb);have n2_:=Aside0.mk (Kd.R_below (Kd.R_set HA.out BK4.out (by decide) 0 _) hb);have HO:=Aside0.mk ho;clear KB BK4 HA ho hb hgl hcz_0 hcz_1 hcz_2 hcz_3 hcz_4 hfz_0 hfz_1 hfz_2 hfz_3 hfz_4;have KB:=n0_;have BK4:=n1_;have HA:=n2_;clear n0_ n1_ n2_;obtain ⟨hcz_0,hcz_1,hcz_2,hcz_3,hcz_4,hfz_0,hfz_1,hfz_2,hfz_3,hfz_4⟩:=bz5_ BK4) | ((with_reducible refine gate_dst (N:=59) rfl ?_);refine plain_ ?hg (fun K hK=>?_);(case hg=>rfl);refine lit_append_step (Kd.fixed k61 wf) w.heap.size (by rfl) (.tmp 56) (.tmp 58) 41 61 (.agg #[(.int .i64 0),(.int .i64 0),(.int .i64 0),(.int .i64 0),(.slice none 0 0),(.slice none 0 0)]) 80 rfl Try.underlying41 info61 rfl (show 0 < 6 by decide) gl x.f1 At x.f1.length ct (fun _=>True) rfl rfl HO.out (Kd.C_below (d:=Kd.fixed k61 wf) HRT.out KB.out.bel) (fun _ _ h=>h) KB.out.bel.size (by have:=HF1.out;omega) (by decide) ?_;intro va w15 ho hb;refine hK _ _ ?_;clear hK K;have n0_:=Aside0.mk (KB.out.below hb);have n1_:=Aside0.mk (blk_below BK4.out hb);have n2_:=Aside0.mk (Kd.R_below HA.out hb);have HT:=Aside0.mk ho;clear KB BK4 HA HO ho hb hcz_0 hcz_1 hcz_2 hcz_3 hcz_4 hfz_0 hfz_1 hfz_2 hfz_3 hfz_4;have KB:=n0_;have BK4:=n1_;have HA:=n2_;clear n0_ n1_ n2_;obtain ⟨Ab,cb,eb⟩:=Kd.R_slice HT.out;subst eb;have BK3:=Aside0.mk KB.out.b3;obtain ⟨hcz_0,hcz_1,hcz_2,hcz_3,hcz_4,hfz_0,hfz_1,hfz_2,hfz_3,hfz_4⟩:=bz5_ BK4;obtain ⟨hcy_0,hcy_1,hcy_2,hcy_3,hcy_4,hfy_0,hfy_1,hfy_2,hfy_3,hfy_4⟩:=bz5_ BK3;have hn34:=HG4.out.2.2.1;have hn43:=hn34.symm) | ((with_reducible refine gate_dst (N:=65) rfl ?_);refine plain_ ?hg (fun K hK=>?_);(case hg=>rfl);refine Kd.R_append_step (kP wf) (w0:=w) w.heap.size (by rfl) (.tmp 62) (.tmp 64) 24 59 (.agg #[(.slice none 0 0),(.slice none 0 0),(.int .i64 0),(.int .i64 0),(.int .i64 0)]) 72 rfl Try.underlying24 info59 rfl (show 0 < 5 by decide) (by omega) (.slice Au ps.length cu) ps x [.slice Aa x.f0.length ca,.slice Ab x.f1.length cb,.int .i64 x.f2,.int .i64 x.f3,.int .i64 x.f4] (fun k=>k ≠ g4) (fun k=>k ≠ g4 ∧ some k ≠ (.slice Au ps.length cu : Value).ownBlock) rfl ?aX ?aP (fun _ hk=>hk) (Kd.freshB (bp5_1_ BK4.out)) (KB.out.put HG4.out 1 _).r0 (KB.out.put HG4.out 1 _).bel (KB.out.put HG4.out 1 _).bel.size ?aL ?_;(case aX=>exact congrArg (fun n=>Value.slice (some ⟨n,0,none⟩) 1 1) (show w15.heap.size = _ by simp [World.setCell]));(case aP=>exact kP_mkM wf _ _ _ x (Kd.R_mono (Kd.R_apart' (Kd.R_types (Kd.R_set HA.out BK4.out (by decide) 1 _) (bp5_1_ BK4.out) (by decide)) (Kd.R_typed (KB.out.put HG4.out 1 _).r0) (by decide)) (fun _ hk=>⟨hk.1.2,hk.2⟩)) (Or.inl ⟨_,rfl,Kd.R_mono (Kd.R_apart' (Kd.R_types (Kd.R_set HT.out BK4.out (show ∀ q,q ∈ [61] → q ≠ 59 by decide) 1 _) (bp5_1_ BK4.out) (show ∀ q,q ∈ [61] → q ≠ 59 by decide)) (Kd.R_typed (KB.out.put HG4.out 1 _).r0) (show ∀ q,q ∈ [61] → q ≠ 59 by decide)) (fun _ hk=>⟨hk.1.2,hk.2⟩)⟩));(case aL=>have:=HL.out.l0;have:=HLT.out;have:=HY.out.2;omega);intro v1 w16 ho hb hg hat;obtain ⟨Az,cz,ez⟩:=Kd.R_slice ho;subst ez;refine hK _ _ ?_;clear hK K;have n0_:=(KB.out.put HG4.out 1 _).over0 hg ho hb;have KE:=Aside0.mk n0_.2;have BK3_:=Aside0.mk n0_.1;clear KB BK4 BK3 HA HT ho hb hg hat n0_ hcz_0 hcz_1 hcz_2 hcz_3 hcz_4 hfz_0 hfz_1 hfz_2 hfz_3 hfz_4 hcy_0 hcy_1 hcy_2 hcy_3 hcy_4 hfy_0 hfy_1 hfy_2 hfy_3 hfy_4 hn34 hn43;obtain ⟨hcz_0,hcz_1,hcz_2,hcz_3,hcz_4,hfz_0,hfz_1,hfz_2,hfz_3,hfz_4⟩:=bz5_ BK3_))
            go_roundg (x0.length - (kk + 1))
            case measure=>omega
            case rel =>
              have el : (ps ++ [x]).length = ps.length + 1:=by simp
              refine ⟨kk + 1,.slice Az (ps.length + 1) cz,ps ++ [x],Nat.succ_le_of_lt HLT.out,Nat.le_refl _,(by rw [wrap_succ (by have:=HL.out.l0;have:=HLT.out;omega)]),⟨HGR.out.symm,by rw [el,HY.out.2]⟩,⟨?_⟩⟩
              have z:=KE.out
              rw [el] at z
              exact z
          · have hltz : decide ((kk : Int) < (x0.length : Int)) = false:=decide_eq_false (by omega)
            have HE:=Aside0.mk (show ps = x0 by rw [HY.out.1,show kk = x0.length by omega,List.take_length])
            have BZ1:=Aside0.mk KB.out.b1
            have BZ2:=Aside0.mk KB.out.b2
            have BZ3:=Aside0.mk KB.out.b3
            obtain ⟨hcz_0,hcz_1,hcz_2,hcz_3,hcz_4,hfz_0,hfz_1,hfz_2,hfz_3,hfz_4⟩:=bz5_ BZ1
            obtain ⟨hcy_0,hcy_1,hcy_2,hcy_3,hcy_4,hfy_0,hfy_1,hfy_2,hfy_3,hfy_4⟩:=bz5_ BZ2
            obtain ⟨hcx_0,hcx_1,hcx_2,hcx_3,hcx_4,hfx_0,hfx_1,hfx_2,hfx_3,hfx_4⟩:=bz5_ BZ3
            have hnb:=KB.out.n3;have hnc:=hnb.symm
            go_wp2
            refine bodyPost_ret (results_cell_row rfl _ _ g2 29 #[.slice Au ps.length cu,.slice B1 x1.length d1,.slice B2 x2.length d2,.slice Av ys.length cv,.slice B4 x4.length d4] (0,0) _ rfl (by apply bp5_4_;apply bp5_3_;apply bp5_2_;apply bp5_1_;apply bp5_0_;exact BZ2.out) Try.underlying29 rfl (by kernel_rfl)) rfl ?_
            have HYE:=HE.out
            subst HYE
            have GE:=KB.out.e2
            exact ⟨_,_,_,_,_,rfl,⟨set5_ _ _ _ _ _ KB.out.r0 BZ2.out (kP_29 wf),set5_ _ _ _ _ _ KB.out.r1 BZ2.out (by decide),set5_ _ _ _ _ _ KB.out.r2 BZ2.out (by decide),set5_ _ _ _ _ _ KB.out.r3 BZ2.out (by decide),set5_ _ _ _ _ _ KB.out.r4 BZ2.out (by decide)⟩,below_set (j:=4) (below_set (j:=3) (below_set (j:=2) (below_set (j:=1) (below_set (j:=0) KB.out.bel GE) GE) GE) GE) GE⟩
end Go.Proofs.Ytdjkmnkgaacmfaa.P

namespace Go.Proofs.Ytdjkmnkgaacmfaa.P
open Go.RowKit Go.Proofs.YtdjkmnkgaacmfaaW.PrintWords Go.Proofs.YtdjkmnkgaacmfaaW.PrintLast Go.Proofs.YtdjkmnkgaacmfaaW.PrintMore
attribute [local go_sem] max2_int min2_int max_two min_two max_three min_three max_four min_four
set_option linter.unusedVariables false
set_option linter.unusedSimpArgs false
def l3out_T7 : Bool × List (List Nat × List Nat):=(true,[([],[]),([0],[0]),([],[]),([],[]),([3],[3]),([],[]),([4,5],[4,5]),([6],[6]),([7],[7]),([8],[8]),([1,2,0,1,2,3,4,5,6,7,8,9],[1,2]),([10,0,1,2,3,4,5,6,7,8,9],[10]),([11,9,9,0,1,2,3,4,5,6,7,8,9],[9,11])])
def l3out_B7 : List Nat:=[0,1,0,0,8,0,56,120,248,504,1023,2047,4095]
theorem l3out_tab7 : rtab .any (opsOf Try.f14 7) = l3out_T7:=by kernel_rfl
theorem l3out_bits7 : waitsOk l3out_T7.2 l3out_B7 = true:=by kernel_rfl
section
variable {wf w W W' : World} {g1 g2 g3 : Nat} {a0 a1 a2 a3 a4 u0 u1 u2 u3 u4 : Value} {ps : List S59} {x1 x2 : List Int} {ss : List (List Int)} {x4 : List S69}
theorem kP_openM {base : Nat} {ok : Nat → Prop} {x : S59} {cs : List Value} (h : (kP wf).M W base ok x cs) : ∃ v0 v1,cs = [v0,v1,.int .i64 x.f2,.int .i64 x.f3,.int .i64 x.f4] ∧ (Kd.int .i64).R 3 W base ok v0 x.f0:=by
  obtain ⟨_,_,rfl,⟨v0,rfl,g0⟩,⟨_,_,rfl,h1,⟨_,_,rfl,rfl,⟨_,_,rfl,rfl,rfl⟩⟩⟩⟩:=h
  rcases h1 with ⟨v1,rfl,_⟩ | ⟨v1,rfl,_⟩
  · exact ⟨v0,v1,rfl,g0⟩
  · exact ⟨v0,v1,rfl,g0⟩
theorem K3.at_ {g cap : Nat} (h : K3 wf w g1 g2 g3 a0 a1 a2 a3 a4 (.slice (some ⟨g,0,none⟩) ps.length cap) u1 u2 u3 u4 (fun _=>True) ps x1 x2 ss x4 W) (hb : Below wf.heap.size wf W) (i : Nat) (hi : i < ps.length) :
    ∃ At ct,W.cell? ⟨g,i * 5 + 1,none⟩ = some (.slice At ps[i].f1.length ct) ∧ W.frozen? ⟨g,i * 5 + 1,none⟩ = false ∧ ps[i].f1.length ≤ ct ∧ k61.C W At ps[i].f1.length ps[i].f1:=by
  obtain ⟨c,hcl,hM,hcc,hfz⟩:=Kd.R_elem h.r0 z59 (i : Int) (by omega) (by omega)
  have e : ps.getD (i : Int).toNat z59 = ps[i]:=by simp [List.getD_eq_getElem?_getD,List.getElem?_eq_getElem hi]
  rw [e] at hM
  obtain ⟨A0,c0,A1,c1,rfl,_,_,hl,hr⟩:=k59_open (kP_K hb ((kP wf).K_of_M hM))
  exact ⟨A1,c1,hcc 1 _ rfl,hfz 1,hl,hr⟩
theorem K3.todo {g cap : Nat} (h : K3 wf w g1 g2 g3 a0 a1 a2 a3 a4 (.slice (some ⟨g,0,none⟩) ps.length cap) u1 u2 u3 u4 (fun _=>True) ps x1 x2 ss x4 W) (i : Nat) (hi : i < ps.length) (v : Value) (hv : k61.R 61 W w.heap.size (fun k=>k ≠ g) v (ps[i].f1)) :
    K3 wf w g1 g2 g3 a0 a1 a2 a3 a4 (.slice (some ⟨g,0,none⟩) ps.length cap) u1 u2 u3 u4 (fun _=>True) ps x1 x2 ss x4 (W.setCell ⟨g,i * 5 + 1,none⟩ v):=by
  obtain ⟨c,hcl,hM,hcc,hfz⟩:=Kd.R_elem h.r0 z59 (i : Int) (by omega) (by omega)
  have e : ps.getD (i : Int).toNat z59 = ps[i]:=by simp [List.getD_eq_getElem?_getD,List.getElem?_eq_getElem hi]
  rw [e] at hM
  obtain ⟨v0,v1,rfl,hr0⟩:=kP_openM hM
  obtain ⟨hr,hg⟩:=Kd.R_seg h.r0 (i : Int) (by omega) (by omega) (seg:=[v]) (j:=1) hcl hcc (show 1 + 1 ≤ 5 by decide) (x':=ps[i]) (okp:=fun k=>k ≠ g) (kP_mkM wf W _ _ ps[i] (Kd.R_mono hr0 (fun _ hk=>hk.2)) (Or.inr ⟨v,rfl,hv⟩)) (fun k hk=>⟨trivial,hk⟩)
  have es : ps.set (i : Int).toNat ps[i] = ps:=by simp
  rw [es] at hr
  have hr' : (kP wf).R 59 (W.setCell ⟨g,i * 5 + 1,none⟩ v) w.heap.size (fun _=>True) (.slice (some ⟨g,0,none⟩) ps.length cap) ps:=hr
  have hg' : W.grownBy (W.setCell ⟨g,i * 5 + 1,none⟩ v) (Value.slice (some ⟨g,0,none⟩) ps.length cap).ownBlock:=hg
  have hge : w.heap.size ≤ g:=Kd.R_base h.r0 g rfl
  have ty:=Kd.R_typed h.r0
  exact ⟨blk_grown h.b1 hg' (Kd.R_ne h.r0 h.b1 (by decide)),blk_grown h.b2 hg' (Kd.R_ne h.r0 h.b2 (by decide)),blk_grown h.b3 hg' (Kd.R_ne h.r0 h.b3 (by decide)),hr',Kd.R_over' h.r1 ty (by decide) hg',Kd.R_over' h.r2 ty (by decide) hg',Kd.R_over' h.r3 ty (by decide) hg',Kd.R_over' h.r4 ty (by decide) hg',h.n1,h.n2,h.n3,h.e2,h.e3,below_set h.bel hge⟩
end
set_option maxHeartbeats 8000000 in
set_option maxRecDepth 100000 in
theorem l3out_says (k : Nat) (A0 : Option Addr) (c0 : Nat) (x0 : List S59) (A1 : Option Addr) (c1 : Nat) (x1 : List Int) (A2 : Option Addr) (c2 : Nat) (x2 : List Int) (A3 : Option Addr) (c3 : Nat) (x3 : List (List Int)) (A4 : Option Addr) (c4 : Nat) (x4 : List S69) (wf w : World) (hwf : Below wf.heap.size wf w) (hz : 0 < x0.length) (h0 : Kd.C (kPf wf) w A0 x0.length x0) (h1 : Kd.C (Kd.int .i64) w A1 x1.length x1) (h2 : Kd.C (Kd.int .i64) w A2 x2.length x2) (h3 : Kd.C (Kd.slice 3 (Kd.int .i64)) w A3 x3.length x3) (h4 : Kd.C k69 w A4 x4.length x4) (hl : Len3 x0 x1 x2 x3 x4) (hf : ∀ x ∈ x0,spec_l2Copy.f k x.f1 4 = some x.f1) :
    Calls Try.prog 14 #[.agg #[.slice A0 x0.length c0,.slice A1 x1.length c1,.slice A2 x2.length c2,.slice A3 x3.length c3,.slice A4 x4.length c4]] w fun e w'=>∃ v0 v1 v2 v3 v4 : Value,e = .returned (.agg #[v0,v1,v2,v3,v4]) ∧ RO (kP wf) w.heap.size w' x0 x1 x2 x3 x4 v0 v1 v2 v3 v4 ∧ Below w.heap.size w w':=by
  have hu29:=Try.underlying29
  have hu59:=Try.underlying59
  have HR0:=Aside0.mk h0
  have HR1:=Aside0.mk h1
  have HR2:=Aside0.mk h2
  have HR3:=Aside0.mk h3
  have HR4:=Aside0.mk h4
  have HL:=Aside0.mk hl
  have HF:=Aside0.mk hf
  have HWF:=Aside0.mk hwf
  clear h0 h1 h2 h3 h4 hl hf hwf
  have HB:=Aside0.mk (Below.refl w.heap.size w)
  have HZP:=Aside0.mk hz
  clear hz
  by_cases hz : x0.length = 0
  · exact absurd hz (Nat.ne_of_gt HZP.out)
  · have hzz : decide ((x0.length : Int) = 0) = false:=decide_eq_false (by omega)
    have HZ:=Aside0.mk hz
    go_enter Try.func14,Try.ntmps14
    try go_wp2_with (first | ((with_reducible refine gate_dst (N:=1) rfl ?_);refine box_event ?hg (N:=1) ?hd (cs:=#[.slice A0 x0.length c0,.slice A1 x1.length c1,.slice A2 x2.length c2,.slice A3 x3.length c3,.slice A4 x4.length c4]) (t:=29) ?hr ?_;(case hd=>rfl);(case hg=>rfl);(case hr=>first | (go_simp;done) | (go_simp;rfl));intro g1 hg w5 hbox hb;have n0_:=Aside0.mk (below_step (q0_ HB) hb);have n1_:=Aside0.mk (hbox);have GE1:=Aside0.mk ((by rw [hg];exact (below_size (q0_ HB)) : w.heap.size ≤ g1));clear HB;have HB:=n0_;have BK1:=n1_;clear n0_ n1_;clear hb hbox hg) | ((with_reducible refine gate_dst (N:=2) rfl ?_);refine box_event ?hg (N:=2) ?hd (cs:=#[.slice none 0 0,.slice none 0 0,.slice none 0 0,.slice none 0 0,.slice none 0 0]) (t:=29) ?hr ?_;(case hd=>rfl);(case hg=>rfl);(case hr=>first | (go_simp;done) | (go_simp;rfl));intro g2 hg w6 hbox hb;have n0_:=Aside0.mk (blk_below BK1.out hb);have n1_:=Aside0.mk (below_step HB.out hb);have n2_:=Aside0.mk (hbox);have GE2:=Aside0.mk ((by rw [hg];exact below_size HB.out) : w.heap.size ≤ g2);have N12:=Aside0.mk ((by rw [hg];exact Nat.ne_of_lt (blk_lt BK1.out)) : g1 ≠ g2);clear BK1 HB;have BK1:=n0_;have HB:=n1_;have BK2:=n2_;clear n0_ n1_ n2_;clear hb hbox hg;obtain ⟨hcz_0,hcz_1,hcz_2,hcz_3,hcz_4,hfz_0,hfz_1,hfz_2,hfz_3,hfz_4⟩:=bz5_ BK1;obtain ⟨hcy_0,hcy_1,hcy_2,hcy_3,hcy_4,hfy_0,hfy_1,hfy_2,hfy_3,hfy_4⟩:=bz5_ BK2;have hn12:=N12.out;have hn21:=hn12.symm) | (go_at_call 34;(with_reducible refine (l3copy_says A0 c0 x0 A1 c1 x1 A2 c2 x2 A3 c3 x3 A4 c4 x4 wf w6 (Kd.C_below HR0.out HB.out) (Kd.C_below HR1.out HB.out) (Kd.C_below HR2.out HB.out) (Kd.C_below HR3.out HB.out) (Kd.C_below HR4.out HB.out) HL.out).mono ?_);rintro e w7 ⟨v0,v1,v2,v3,v4,rfl,hrc,hb⟩;have n0_:=Aside0.mk (blk_below BK1.out hb);have n1_:=Aside0.mk (below_step HB.out hb);have n2_:=Aside0.mk (blk_below BK2.out hb);have HC:=Aside0.mk hrc;have HS:=Aside0.mk HB.out.size;clear BK1 BK2 HB hb hrc hcz_0 hcz_1 hcz_2 hcz_3 hcz_4 hfz_0 hfz_1 hfz_2 hfz_3 hfz_4 hcy_0 hcy_1 hcy_2 hcy_3 hcy_4 hfy_0 hfy_1 hfy_2 hfy_3 hfy_4;have BK1:=n0_;have HB:=n1_;have BK2:=n2_;clear n0_ n1_ n2_;obtain ⟨B0,d0,e0⟩:=Kd.R_slice HC.out.r0;obtain ⟨B1,d1,e1⟩:=Kd.R_slice HC.out.r1;obtain ⟨B2,d2,e2⟩:=Kd.R_slice HC.out.r2;obtain ⟨B3,d3,e3⟩:=Kd.R_slice HC.out.r3;obtain ⟨B4,d4,e4⟩:=Kd.R_slice HC.out.r4;subst e0;subst e1;subst e2;subst e3;subst e4) | ((with_reducible refine gate_dst (N:=3) rfl ?_);refine box_event ?hg (N:=3) ?hd (cs:=#[.slice none 0 0,.slice none 0 0,.slice none 0 0,.slice none 0 0,.slice none 0 0]) (t:=29) ?hr ?_;(case hd=>rfl);(case hg=>rfl);(case hr=>first | (go_simp;done) | (go_simp;rfl));intro g3 hg w8 hbox hb;have n0_:=Aside0.mk (blk_below BK1.out hb);have n1_:=Aside0.mk (below_step HB.out hb);have n2_:=Aside0.mk (blk_below BK2.out hb);have N13:=Aside0.mk ((by rw [hg];exact Nat.ne_of_lt (blk_lt BK1.out)) : g1 ≠ g3);have N23:=Aside0.mk ((by rw [hg];exact Nat.ne_of_lt (blk_lt BK2.out)) : g2 ≠ g3);have GE3:=Aside0.mk ((by rw [hg];exact below_size HB.out) : w.heap.size ≤ g3);have n3_:=Aside0.mk (Kd.R_below HC.out.r0 hb);have n4_:=Aside0.mk (Kd.R_below HC.out.r1 hb);have n5_:=Aside0.mk (Kd.R_below HC.out.r2 hb);have n6_:=Aside0.mk (Kd.R_below HC.out.r3 hb);have n7_:=Aside0.mk (Kd.R_below HC.out.r4 hb);have BK3:=Aside0.mk hbox;clear BK1 BK2 HB HC hb hbox hg;have BK1:=n0_;have HB:=n1_;have BK2:=n2_;clear n0_ n1_ n2_;obtain ⟨hcz_0,hcz_1,hcz_2,hcz_3,hcz_4,hfz_0,hfz_1,hfz_2,hfz_3,hfz_4⟩:=bz5_ BK3))
    obtain ⟨g,cap,eg,_,_,_⟩:=Kd.R_form n3_.out (by have:=HZ.out;omega)
    injection eg with eg1 _ eg2
    subst eg1
    subst eg2
    have kb : K3 wf w g1 g2 g3 (.slice A0 x0.length c0) (.slice A1 x1.length c1) (.slice A2 x2.length c2) (.slice A3 x3.length c3) (.slice A4 x4.length c4) (.slice (some ⟨g,0,none⟩) x0.length d0) (.slice B1 x1.length d1) (.slice B2 x2.length d2) (.slice B3 x3.length d3) (.slice B4 x4.length d4) (fun _=>True) x0 x1 x2 x3 x4 (((((w8.setCell ⟨g3,0,none⟩ (.slice (some ⟨g,0,none⟩) x0.length d0)).setCell ⟨g3,1,none⟩ (.slice B1 x1.length d1)).setCell ⟨g3,2,none⟩ (.slice B2 x2.length d2)).setCell ⟨g3,3,none⟩ (.slice B3 x3.length d3)).setCell ⟨g3,4,none⟩ (.slice B4 x4.length d4)) :=
      ⟨blk_far (p:=⟨g3,4,none⟩) (blk_far (p:=⟨g3,3,none⟩) (blk_far (p:=⟨g3,2,none⟩) (blk_far (p:=⟨g3,1,none⟩) (blk_far (p:=⟨g3,0,none⟩) BK1.out N13.out _) N13.out _) N13.out _) N13.out _) N13.out _,
       blk_far (p:=⟨g3,4,none⟩) (blk_far (p:=⟨g3,3,none⟩) (blk_far (p:=⟨g3,2,none⟩) (blk_far (p:=⟨g3,1,none⟩) (blk_far (p:=⟨g3,0,none⟩) BK2.out N23.out _) N23.out _) N23.out _) N23.out _) N23.out _,
       by apply bp5_4_;apply bp5_3_;apply bp5_2_;apply bp5_1_;apply bp5_0_;exact BK3.out,
       set5_ _ _ _ _ _ (Kd.R_lower n3_.out HS.out) BK3.out (kP_29 wf),set5_ _ _ _ _ _ (Kd.R_lower n4_.out HS.out) BK3.out (by decide),set5_ _ _ _ _ _ (Kd.R_lower n5_.out HS.out) BK3.out (by decide),set5_ _ _ _ _ _ (Kd.R_lower n6_.out HS.out) BK3.out (by decide),set5_ _ _ _ _ _ (Kd.R_lower n7_.out HS.out) BK3.out (by decide),N12.out,N13.out,N23.out,GE2.out,GE3.out,
       below_set (j:=4) (below_set (j:=3) (below_set (j:=2) (below_set (j:=1) (below_set (j:=0) HB.out GE3.out) GE3.out) GE3.out) GE3.out) GE3.out⟩
    have KB:=Aside0.mk kb
    clear kb BK1 BK2 BK3 HB HS n3_ n4_ n5_ n6_ n7_ hcz_0 hcz_1 hcz_2 hcz_3 hcz_4 hfz_0 hfz_1 hfz_2 hfz_3 hfz_4
    generalize (((((w8.setCell ⟨g3,0,none⟩ (.slice (some ⟨g,0,none⟩) x0.length d0)).setCell ⟨g3,1,none⟩ (.slice B1 x1.length d1)).setCell ⟨g3,2,none⟩ (.slice B2 x2.length d2)).setCell ⟨g3,3,none⟩ (.slice B3 x3.length d3)).setCell ⟨g3,4,none⟩ (.slice B4 x4.length d4)) = w9 at KB ⊢
    go_loopg [4] x0.length (fun gg v4 wr=>∃ (kk : Nat),kk ≤ x0.length ∧ x0.length - kk ≤ gg ∧ v4 = .int .i64 kk ∧ Aside0 (K3 wf w g1 g2 g3 (.slice A0 x0.length c0) (.slice A1 x1.length c1) (.slice A2 x2.length c2) (.slice A3 x3.length c3) (.slice A4 x4.length c4) (.slice (some ⟨g,0,none⟩) x0.length d0) (.slice B1 x1.length d1) (.slice B2 x2.length d2) (.slice B3 x3.length d3) (.slice B4 x4.length d4) (fun _=>True) x0 x1 x2 x3 x4 wr))
    case atStart=>exact ⟨0,Nat.zero_le _,by omega,rfl,KB⟩
    case round =>
      clear KB
      obtain ⟨kk,hkk,hgk,rfl,KB⟩:=hrel
      have BZ3:=Aside0.mk KB.out.b3
      obtain ⟨hcz_0,hcz_1,hcz_2,hcz_3,hcz_4,hfz_0,hfz_1,hfz_2,hfz_3,hfz_4⟩:=bz5_ BZ3
      by_cases hlt : kk < x0.length
      · have hltz : decide ((kk : Int) < (x0.length : Int)) = true:=decide_eq_true (by omega)
        have HLT:=Aside0.mk hlt
        have p1 : 0 ≤ (kk : Int):=by omega
        have q1 : (kk : Int) < (x0.length : Int):=by omega
        obtain ⟨At,ct,hx,hfz,hlt_,hit⟩:=KB.out.at_ (below_step HWF.out KB.out.bel) kk hlt
        have HFX:=Aside0.mk (HF.out x0[kk] (List.getElem_mem hlt))
        have HLM:=Aside0.mk hlt_
        have HIT:=Aside0.mk hit
        have HX:=Aside0.mk (Eq.refl x0[kk])
        have key:=fun (W : World) (h : K3 wf w g1 g2 g3 (.slice A0 x0.length c0) (.slice A1 x1.length c1) (.slice A2 x2.length c2) (.slice A3 x3.length c3) (.slice A4 x4.length c4) (.slice (some ⟨g,0,none⟩) x0.length d0) (.slice B1 x1.length d1) (.slice B2 x2.length d2) (.slice B3 x3.length d3) (.slice B4 x4.length d4) (fun _=>True) x0 x1 x2 x3 x4 W) (v : Value) (hv : k61.R 61 W w.heap.size (fun k=>k ≠ g) v (x0[kk].f1))=>h.todo kk hlt v hv
        have KEY:=Aside0.mk key
        clear key
        generalize x0[kk] = x at hx hlt_ hit HFX HLM HIT HX KEY
        clear hlt_ hit HX
        replace p1:=eq_true p1
        replace q1:=eq_true q1
        try go_wp2
        have KC:=Aside0.mk (KB.out.below (below_drew1 (Below.refl _ _)))
        have HIT1:=Aside0.mk (Kd.C_below HIT.out (below_drew1 (Below.refl wr.heap.size wr)))
        clear KB BZ3 hcz_0 hcz_1 hcz_2 hcz_3 hcz_4 hfz_0 hfz_1 hfz_2 hfz_3 hfz_4 HIT
        refine start_ (n:=13) (S:=fun w'=>w'.cell? ⟨g3,0,none⟩ = some (.slice (some ⟨g,0,none⟩) x0.length d0) ∧ w'.cell? ⟨g,kk * 5 + 1,none⟩ = some (.slice At x.f1.length ct)) (ds:=[12]) #[false,false,false,false,false,false,false,false,false,false,false,false,false] (by kernel_rfl) rfl rfl ⟨(blk_cell KC.out.b3 0).trans rfl,hx⟩ (fun hHeld=>?_)
        refine with_tabW l3out_tab7 l3out_bits7 (fun HT_ HW_=>?_)
        clear hx hfz
        generalize wr.drew = w10 at KC HIT1 hHeld ⊢
        refine pure_ (i:=0) (N:=some 19) (v:=?_) (a':=?_) #[true,false,false,false,false,false,false,false,false,false,false,false,false] rfl rfl (any_of HT_.out (by kernel_rfl)) (fun _ _ _ h=>h) (Or.inl ⟨by rfl,?_⟩) ?_ ?_
        rotate_left
        · intro w'
          go_simp
          with_reducible rfl
        rotate_left
        · (try simp only [Act.put,List.setIfInBounds_toArray,List.set_cons_zero,List.set_cons_succ,i64_w,i32_w])
          rfl
        refine pure_ (i:=2) (N:=some 21) (v:=?_) (a':=?_) #[true,false,true,false,false,false,false,false,false,false,false,false,false] rfl rfl (any_of HT_.out (by kernel_rfl)) (fun _ _ _ h=>h) (Or.inl ⟨by rfl,?_⟩) ?_ ?_
        rotate_left
        · intro w'
          go_simp
          with_reducible rfl
        rotate_left
        · (try simp only [Act.put,List.setIfInBounds_toArray,List.set_cons_zero,List.set_cons_succ,i64_w,i32_w])
          rfl
        refine pure_ (i:=3) (N:=some 22) (v:=?_) (a':=?_) #[true,false,true,true,false,false,false,false,false,false,false,false,false] rfl rfl (any_of HT_.out (by kernel_rfl)) (fun _ _ _ h=>h) (Or.inl ⟨by rfl,?_⟩) ?_ ?_
        rotate_left
        · intro w'
          go_simp
          with_reducible rfl
        rotate_left
        · (try simp only [Act.put,List.setIfInBounds_toArray,List.set_cons_zero,List.set_cons_succ,i64_w,i32_w])
          rfl
        refine pure_ (i:=5) (N:=some 24) (v:=?_) (a':=?_) #[true,false,true,true,false,true,false,false,false,false,false,false,false] rfl rfl (any_of HT_.out (by kernel_rfl)) (fun _ _ _ h=>h) (Or.inl ⟨by rfl,?_⟩) ?_ ?_
        rotate_left
        · intro w'
          go_simp
          with_reducible rfl
        rotate_left
        · (try simp only [Act.put,List.setIfInBounds_toArray,List.set_cons_zero,List.set_cons_succ,i64_w,i32_w])
          rfl
        refine take_ (i:=1) (N:=some 20) (v:=?_) (a':=?_) #[true,true,true,true,false,true,false,false,false,false,false,false,false] rfl rfl (take_ofW HT_.out HW_.out (by kernel_rfl)) (fun _ _ _ h=>h) (Or.inl ⟨by rfl,?_⟩) hHeld ?_ ?_
        rotate_left
        · rintro w' ⟨s0,s1⟩
          go_simp
          with_reducible rfl
        rotate_left
        · (try simp only [Act.put,List.setIfInBounds_toArray,List.set_cons_zero,List.set_cons_succ,i64_w,i32_w])
          rfl
        refine take_ (i:=4) (N:=some 23) (v:=?_) (a':=?_) #[true,true,true,true,true,true,false,false,false,false,false,false,false] rfl rfl (take_ofW HT_.out HW_.out (by kernel_rfl)) (fun _ _ _ h=>h) (Or.inl ⟨by rfl,?_⟩) hHeld ?_ ?_
        rotate_left
        · rintro w' ⟨s0,s1⟩
          go_simp
          with_reducible rfl
        rotate_left
        · (try simp only [Act.put,List.setIfInBounds_toArray,List.set_cons_zero,List.set_cons_succ,i64_w,i32_w])
          rfl
        refine pure_ (i:=6) (N:=some 25) (v:=?_) (a':=?_) #[true,true,true,true,true,true,true,false,false,false,false,false,false] rfl rfl (any_of HT_.out (by kernel_rfl)) (fun _ _ _ h=>h) (Or.inl ⟨by rfl,?_⟩) ?_ ?_
        rotate_left
        · intro w'
          go_simp
          with_reducible rfl
        rotate_left
        · (try simp only [Act.put,List.setIfInBounds_toArray,List.set_cons_zero,List.set_cons_succ,i64_w,i32_w])
          rfl
        refine pure_ (i:=7) (N:=some 26) (v:=?_) (a':=?_) #[true,true,true,true,true,true,true,true,false,false,false,false,false] rfl rfl (any_of HT_.out (by kernel_rfl)) (fun _ _ _ h=>h) (Or.inl ⟨by rfl,?_⟩) ?_ ?_
        rotate_left
        · intro w'
          go_simp
          with_reducible rfl
        rotate_left
        · (try simp only [Act.put,List.setIfInBounds_toArray,List.set_cons_zero,List.set_cons_succ,i64_w,i32_w])
          rfl
        refine take_ (i:=8) (N:=some 27) (v:=?_) (a':=?_) #[true,true,true,true,true,true,true,true,true,false,false,false,false] rfl rfl (take_ofW HT_.out HW_.out (by kernel_rfl)) (fun _ _ _ h=>h) (Or.inl ⟨by rfl,?_⟩) hHeld ?_ ?_
        rotate_left
        · rintro w' ⟨s0,s1⟩
          go_simp
          with_reducible rfl
        rotate_left
        · (try simp only [Act.put,List.setIfInBounds_toArray,List.set_cons_zero,List.set_cons_succ,i64_w,i32_w])
          rfl
        refine one_ (i:=9) (N:=some 28) #[true,true,true,true,true,true,true,true,true,true,false,false,false] rfl rfl (one_of HT_.out (by kernel_rfl)) (by decide) (fun K hK=>?_)
        refine goes_ Try.func35 (by kernel_rfl) rfl #[.slice At x.f1.length ct,.int .i64 4] (by rfl) rfl rfl (by (try simp only [List.map_toArray,List.map_cons,List.map_nil]);first | done | rfl | (simp only [List.length_drop,List.length_take];rfl)) ?_
        with_reducible refine (spec_l2Copy.calls k _ _ x.f1 4 x.f1 _ HIT1.out HLM.out HFX.out).mono ?_
        rintro e wt ⟨vt,rfl,ht,hb⟩
        refine ⟨_,rfl,?_⟩
        have KD:=Aside0.mk (KC.out.below hb)
        have HV:=Aside0.mk (show k61.R 61 wt w.heap.size (fun k=>k ≠ g) vt x.f1 from Kd.R_lower (Kd.R_mono (Kd.R_bound ht) (fun k hk=>by have h1:=hk.2.1;have h2:=Kd.R_lt KC.out.r0 g rfl;omega)) KC.out.bel.size)
        obtain ⟨Ab,cb,eb⟩:=Kd.R_slice ht
        subst eb
        have hx2:=(hb.cell (World.block_lt_of_cell? _ _ hHeld.2)).trans hHeld.2
        clear hHeld ht hb
        refine hK.out _ _ ⟨(blk_cell KD.out.b3 0).trans rfl,hx2⟩ (fun hHeld=>?_)
        clear hK K hx2
        refine norm_ (a':=?_) ?_ ?_
        rotate_left
        · show Act.put _ (some 28) _ = _
          simp only [Act.put,List.setIfInBounds_toArray,List.set_cons_zero,List.set_cons_succ,i64_w,i32_w]
          rfl
        refine pure_ (i:=10) (N:=some 29) (v:=?_) (a':=?_) #[true,true,true,true,true,true,true,true,true,true,true,false,false] rfl rfl (any_of HT_.out (by kernel_rfl)) (fun _ _ _ h=>h) (Or.inl ⟨by rfl,?_⟩) ?_ ?_
        rotate_left
        · intro w'
          go_simp
          with_reducible rfl
        rotate_left
        · (try simp only [Act.put,List.setIfInBounds_toArray,List.set_cons_zero,List.set_cons_succ,i64_w,i32_w])
          rfl
        refine pure_ (i:=11) (N:=some 30) (v:=?_) (a':=?_) #[true,true,true,true,true,true,true,true,true,true,true,true,false] rfl rfl (any_of HT_.out (by kernel_rfl)) (fun _ _ _ h=>h) (Or.inl ⟨by rfl,?_⟩) ?_ ?_
        rotate_left
        · intro w'
          go_simp
          with_reducible rfl
        rotate_left
        · (try simp only [Act.put,List.setIfInBounds_toArray,List.set_cons_zero,List.set_cons_succ,i64_w,i32_w])
          rfl
        refine last_ (i:=12) (N:=none) #[true,true,true,true,true,true,true,true,true,true,true,true,true] rfl rfl (one_of HT_.out (by kernel_rfl)) (by decide) (fun K hK=>?_)
        obtain ⟨_,_,hs44,hfs44,_,_⟩:=KD.out.at_ (below_step HWF.out KD.out.bel) kk HLT.out
        refine skip_ (w1:=?_) (by rfl) rfl ?_ ?_
        rotate_left
        · go_simp
          rfl
        refine hK.out _ _ ?_
        clear hK K
        refine done_ (done_of HT_.out (by kernel_rfl)) ?_
        clear HT_ HW_
        try go_wp2
        go_roundg (x0.length - (kk + 1))
        case measure=>have:=HLT.out;omega
        case rel=>exact ⟨kk + 1,Nat.succ_le_of_lt HLT.out,Nat.le_refl _,(by rw [wrap_succ (by have:=HL.out.l0;have:=HLT.out;omega)]),⟨KEY.out _ KD.out _ HV.out⟩⟩
      · have hltz : decide ((kk : Int) < (x0.length : Int)) = false:=decide_eq_false (by omega)
        have BZ2:=Aside0.mk KB.out.b2
        obtain ⟨hcy_0,hcy_1,hcy_2,hcy_3,hcy_4,hfy_0,hfy_1,hfy_2,hfy_3,hfy_4⟩:=bz5_ BZ2
        have hnb:=KB.out.n3;have hnc:=hnb.symm
        go_wp2
        refine bodyPost_ret (results_cell_row rfl _ _ g2 29 #[.slice (some ⟨g,0,none⟩) x0.length d0,.slice B1 x1.length d1,.slice B2 x2.length d2,.slice B3 x3.length d3,.slice B4 x4.length d4] (0,0) _ rfl (by apply bp5_4_;apply bp5_3_;apply bp5_2_;apply bp5_1_;apply bp5_0_;exact BZ2.out) Try.underlying29 rfl (by kernel_rfl)) rfl ?_
        have GE:=KB.out.e2
        have hb:=below_set (v:=.slice B4 x4.length d4) (j:=4) (below_set (v:=.slice B3 x3.length d3) (j:=3) (below_set (v:=.slice B2 x2.length d2) (j:=2) (below_set (v:=.slice B1 x1.length d1) (j:=1) (below_set (v:=.slice (some ⟨g,0,none⟩) x0.length d0) (j:=0) KB.out.bel GE) GE) GE) GE) GE
        exact ⟨_,_,_,_,_,rfl,⟨set5_ _ _ _ _ _ KB.out.r0 BZ2.out (kP_29 wf),set5_ _ _ _ _ _ KB.out.r1 BZ2.out (by decide),set5_ _ _ _ _ _ KB.out.r2 BZ2.out (by decide),set5_ _ _ _ _ _ KB.out.r3 BZ2.out (by decide),set5_ _ _ _ _ _ KB.out.r4 BZ2.out (by decide)⟩,hb⟩
end Go.Proofs.Ytdjkmnkgaacmfaa.P

namespace Go.Proofs.Ytdjkmnkgaacmfaa.P
open Go.RowKit Go.Proofs.YtdjkmnkgaacmfaaW.PrintWords Go.Proofs.YtdjkmnkgaacmfaaW.PrintLast Go.Proofs.YtdjkmnkgaacmfaaW.PrintMore
attribute [local go_sem] max2_int min2_int max_two min_two max_three min_three max_four min_four
set_option linter.unusedVariables false
set_option linter.unusedSimpArgs false
theorem wo_len {r : Bool} {l : List (List S61)} (h : r = true → (∀ x ∈ l,x.length ≤ 1000000000) ∧ l.length ≤ 1000000000) : Len3 (wo0 r l) (wo1 r) (wo2 r) (wo3 r) []:=by
  cases r with
  | false=>exact ⟨by simp [wo0],by simp [wo1],by simp [wo2],by simp [wo3],by simp,by simp [wo0],by simp [wo0],by simp [wo3]⟩
  | true =>
    obtain ⟨h1,h2⟩:=h rfl
    refine ⟨by simpa [wo0] using h2,by simp [wo1],by simp [wo2],by simp [wo3],by simp,fun x hx=>?_,fun x hx=>?_,fun x hx=>?_⟩
    · obtain ⟨y,hy,rfl⟩:=List.mem_map.1 (show x ∈ l.map prO from hx)
      simp [prO]
    · obtain ⟨y,hy,rfl⟩:=List.mem_map.1 (show x ∈ l.map prO from hx)
      exact h1 y hy
    · obtain ⟨_,rfl⟩:=List.mem_replicate.1 (show x ∈ List.replicate 2 [] from hx)
      simp
set_option maxHeartbeats 8000000 in
set_option maxRecDepth 100000 in
theorem l3out_nil (w : World) : Calls Try.prog 14 #[.agg #[.slice none 0 0,.slice none 0 0,.slice none 0 0,.slice none 0 0,.slice none 0 0]] w fun e w'=>e = .returned (.agg #[.slice none 0 0,.slice none 0 0,.slice none 0 0,.slice none 0 0,.slice none 0 0]) ∧ Below w.heap.size w w':=by
  have hu29:=Try.underlying29
  have HB:=Aside0.mk (Below.refl w.heap.size w)
  go_enter Try.func14,Try.ntmps14
  go_wp2_with (first | ((with_reducible refine gate_dst (N:=1) rfl ?_);refine box_event ?hg (N:=1) ?hd (cs:=#[.slice none 0 0,.slice none 0 0,.slice none 0 0,.slice none 0 0,.slice none 0 0]) (t:=29) ?hr ?_;(case hd=>rfl);(case hg=>rfl);(case hr=>first | (go_simp;done) | (go_simp;rfl));intro g1 hg w5 hbox hb;have n0_:=Aside0.mk (below_step (q0_ HB) hb);have n1_:=Aside0.mk (hbox);have GE1:=Aside0.mk ((by rw [hg];exact (below_size (q0_ HB)) : w.heap.size ≤ g1));clear HB;have HB:=n0_;have BK1:=n1_;clear n0_ n1_;clear hb hbox hg) | ((with_reducible refine gate_dst (N:=2) rfl ?_);refine box_event ?hg (N:=2) ?hd (cs:=#[.slice none 0 0,.slice none 0 0,.slice none 0 0,.slice none 0 0,.slice none 0 0]) (t:=29) ?hr ?_;(case hd=>rfl);(case hg=>rfl);(case hr=>first | (go_simp;done) | (go_simp;rfl));intro gb hg w6 hbox hb;have n2_:=Aside0.mk (blk_below BK1.out hb);have N12:=Aside0.mk ((by rw [hg];exact Nat.ne_of_lt (blk_lt BK1.out)) : g1 ≠ gb);have n0_:=Aside0.mk (below_step (q0_ HB) hb);have n1_:=Aside0.mk (hbox);have GE:=Aside0.mk ((by rw [hg];exact (below_size (q0_ HB)) : w.heap.size ≤ gb));clear HB;have HB:=n0_;have BK:=n1_;clear n0_ n1_;clear BK1;have BK1:=n2_;clear n2_;obtain ⟨hcz_0,hcz_1,hcz_2,hcz_3,hcz_4,hfz_0,hfz_1,hfz_2,hfz_3,hfz_4⟩:=bz5_ BK1;obtain ⟨hcy_0,hcy_1,hcy_2,hcy_3,hcy_4,hfy_0,hfy_1,hfy_2,hfy_3,hfy_4⟩:=bz5_ BK;have hn12:=N12.out;have hn21:=hn12.symm;clear hb hbox hg))
  refine bodyPost_ret (results_cell_row rfl _ _ gb 29 #[.slice none 0 0,.slice none 0 0,.slice none 0 0,.slice none 0 0,.slice none 0 0] (0,0) _ rfl (by apply bp5_4_;apply bp5_3_;apply bp5_2_;apply bp5_1_;apply bp5_0_;exact BK.out) Try.underlying29 rfl (by kernel_rfl)) rfl ?_
  exact ⟨rfl,below_set (below_set (below_set (below_set (below_set HB.out GE.out) GE.out) GE.out) GE.out) GE.out⟩
set_option maxHeartbeats 8000000 in
set_option maxRecDepth 100000 in
theorem smean_says (k : Nat) (A0 : Option Addr) (c0 : Nat) (l0 : List (List S61)) (r : Bool) (w : World) (hr0 : Kd.C (Kd.slice 61 k61) w A0 l0.length l0) (hc0 : l0.length ≤ c0) (hlen : r = true → (∀ x ∈ l0,x.length ≤ 1000000000) ∧ l0.length ≤ 1000000000) (hpos : r = true → 0 < l0.length) (h : spec_ProgOk.f k l0 = some r) (hf : r = true → ∀ x ∈ l0,spec_l2Copy.f k x 4 = some x) :
    Calls Try.prog 5 #[.slice A0 l0.length c0] w fun e w'=>∃ v0 v1 v2 v3 v4 : Value,e = .returned (.agg #[v0,v1,v2,v3,v4]) ∧ WC w' (wo0 r l0) (wo1 r) (wo2 r) (wo3 r) [] v0 v1 v2 v3 v4 ∧ Below w.heap.size w w':=by
  have hu29:=Try.underlying29
  have HR0:=Aside0.mk hr0
  have HC0:=Aside0.mk hc0
  have HL:=Aside0.mk hlen
  have HP:=Aside0.mk hpos
  have HF:=Aside0.mk (show ∀ x ∈ wo0 r l0,spec_l2Copy.f k x.f1 4 = some x.f1 from fun x hx=>by
    cases r with
    | false=>simp [wo0] at hx
    | true =>
      obtain ⟨y,hy,rfl⟩:=List.mem_map.1 (show x ∈ l0.map prO from hx)
      exact hf rfl y hy)
  have A2:=Aside0.mk h
  clear hr0 hc0 h hf hlen hpos
  have HB:=Aside0.mk (Below.refl w.heap.size w)
  cases r with
  | true =>
    have HLN:=Aside0.mk (wo_len HL.out)
    have HPN:=Aside0.mk (show 0 < (wo0 true l0).length by have:=HP.out rfl;simpa [wo0] using this)
    have HLT:=Aside0.mk (HL.out rfl)
    clear HL HP
    go_enter Try.func5,Try.ntmps5
    go_wp2_with (first | ((with_reducible refine gate_dst (N:=2) rfl ?_);refine box_event ?hg (N:=2) ?hd (cs:=#[.slice none 0 0,.slice none 0 0,.slice none 0 0,.slice none 0 0,.slice none 0 0]) (t:=29) ?hr ?_;(case hd=>rfl);(case hg=>rfl);(case hr=>first | (go_simp;done) | (go_simp;rfl));intro gb hg w5 hbox hb;have n0_:=Aside0.mk (below_step (q0_ HB) hb);have n1_:=Aside0.mk (hbox);have GE:=Aside0.mk ((by rw [hg];exact (below_size (q0_ HB)) : w.heap.size ≤ gb));clear HB;have HB:=n0_;have BK:=n1_;clear n0_ n1_;clear hb hbox hg) | (go_at_call 15;(with_reducible refine (l3open_says k A0 c0 l0 true w w5 HB.out HR0.out HC0.out (fun _=>HLT.out) A2.out).mono ?_);rintro e w6 ⟨v0,v1,v2,v3,v4,rfl,hw,hb⟩;have n0_:=Aside0.mk (blk_below BK.out hb);have n1_:=Aside0.mk (below_step HB.out hb);have HW:=Aside0.mk (show RO (kPf w) w5.heap.size w6 (wo0 true l0) (wo1 true) (wo2 true) (wo3 true) [] v0 v1 v2 v3 v4 from hw);clear BK HB hw hb;have BK:=n0_;have HB:=n1_;clear n0_ n1_;obtain ⟨B0,d0,e0,_,h0_⟩:=Kd.R_reads HW.out.r0;obtain ⟨B1,d1,e1,_,h1_⟩:=Kd.R_reads HW.out.r1;obtain ⟨B2,d2,e2,_,h2_⟩:=Kd.R_reads HW.out.r2;obtain ⟨B3,d3,e3,_,h3_⟩:=Kd.R_reads HW.out.r3;obtain ⟨B4,d4,e4,_,h4_⟩:=Kd.R_reads HW.out.r4;subst e0;subst e1;subst e2;subst e3;subst e4) | (go_at_call 14;refine (l3out_says k B0 d0 (wo0 true l0) B1 d1 (wo1 true) B2 d2 (wo2 true) B3 d3 (wo3 true) B4 d4 [] w w6 HB.out HPN.out h0_ h1_ h2_ h3_ h4_ HLN.out HF.out).mono ?_;rintro e w7 ⟨v0,v1,v2,v3,v4,rfl,hw,hb⟩;have n0_:=Aside0.mk (blk_below BK.out hb);have n1_:=Aside0.mk (below_step HB.out hb);have HV:=Aside0.mk hw;clear BK HB hw hb h0_ h1_ h2_ h3_ h4_ HW;have BK:=n0_;have HB:=n1_;clear n0_ n1_;obtain ⟨E0,i0,e0⟩:=Kd.R_slice HV.out.r0;obtain ⟨E1,i1,e1⟩:=Kd.R_slice HV.out.r1;obtain ⟨E2,i2,e2⟩:=Kd.R_slice HV.out.r2;obtain ⟨E3,i3,e3⟩:=Kd.R_slice HV.out.r3;obtain ⟨E4,i4,e4⟩:=Kd.R_slice HV.out.r4;subst e0;subst e1;subst e2;subst e3;subst e4;obtain ⟨hcz_0,hcz_1,hcz_2,hcz_3,hcz_4,hfz_0,hfz_1,hfz_2,hfz_3,hfz_4⟩:=bz5_ BK))
    refine bodyPost_ret (results_cell_row rfl _ _ gb 29 #[.slice E0 (wo0 true l0).length i0,.slice E1 (wo1 true).length i1,.slice E2 (wo2 true).length i2,.slice E3 (wo3 true).length i3,.slice E4 ([] : List S69).length i4] (0,0) _ rfl (by apply bp5_4_;apply bp5_3_;apply bp5_2_;apply bp5_1_;apply bp5_0_;exact BK.out) Try.underlying29 rfl (by kernel_rfl)) rfl ?_
    have hb:=below_set (v:=.slice E4 ([] : List S69).length i4) (j:=4) (below_set (v:=.slice E3 (wo3 true).length i3) (j:=3) (below_set (v:=.slice E2 (wo2 true).length i2) (j:=2) (below_set (v:=.slice E1 (wo1 true).length i1) (j:=1) (below_set (v:=.slice E0 (wo0 true l0).length i0) (j:=0) HB.out GE.out) GE.out) GE.out) GE.out) GE.out
    obtain ⟨A_,c_,e_,hl_,hc_⟩:=Kd.R_reads (set5_ (.slice E0 (wo0 true l0).length i0) (.slice E1 (wo1 true).length i1) (.slice E2 (wo2 true).length i2) (.slice E3 (wo3 true).length i3) (.slice E4 ([] : List S69).length i4) HV.out.r0 BK.out (kP_29 w))
    exact ⟨_,_,_,_,_,rfl,⟨⟨A_,c_,e_,hl_,kP_C hb hc_⟩,Rd.of_R (set5_ _ _ _ _ _ HV.out.r1 BK.out (by decide)),Rd.of_R (set5_ _ _ _ _ _ HV.out.r2 BK.out (by decide)),Rd.of_R (set5_ _ _ _ _ _ HV.out.r3 BK.out (by decide)),Rd.of_R (set5_ _ _ _ _ _ HV.out.r4 BK.out (by decide))⟩,hb⟩
  | false =>
    go_enter Try.func5,Try.ntmps5
    go_wp2_with (first | ((with_reducible refine gate_dst (N:=2) rfl ?_);refine box_event ?hg (N:=2) ?hd (cs:=#[.slice none 0 0,.slice none 0 0,.slice none 0 0,.slice none 0 0,.slice none 0 0]) (t:=29) ?hr ?_;(case hd=>rfl);(case hg=>rfl);(case hr=>first | (go_simp;done) | (go_simp;rfl));intro gb hg w5 hbox hb;have n0_:=Aside0.mk (below_step (q0_ HB) hb);have n1_:=Aside0.mk (hbox);have GE:=Aside0.mk ((by rw [hg];exact (below_size (q0_ HB)) : w.heap.size ≤ gb));clear HB;have HB:=n0_;have BK:=n1_;clear n0_ n1_;clear hb hbox hg) | (go_at_call 15;(with_reducible refine (l3open_says k A0 c0 l0 false w w5 HB.out HR0.out HC0.out (fun e=>absurd e (by decide)) A2.out).mono ?_);rintro e w6 ⟨v0,v1,v2,v3,v4,rfl,⟨rfl,rfl,rfl,rfl,rfl⟩,hb⟩;have n0_:=Aside0.mk (blk_below BK.out hb);have n1_:=Aside0.mk (below_step HB.out hb);clear BK HB hb;have BK:=n0_;have HB:=n1_;clear n0_ n1_) | (go_at_call 14;(with_reducible refine (l3out_nil w6).mono ?_);rintro e w7 ⟨rfl,hb⟩;have n0_:=Aside0.mk (blk_below BK.out hb);have n1_:=Aside0.mk (below_step HB.out hb);clear BK HB hb;have BK:=n0_;have HB:=n1_;clear n0_ n1_;obtain ⟨hcz_0,hcz_1,hcz_2,hcz_3,hcz_4,hfz_0,hfz_1,hfz_2,hfz_3,hfz_4⟩:=bz5_ BK))
    refine bodyPost_ret (results_cell_row rfl _ _ gb 29 #[.slice none 0 0,.slice none 0 0,.slice none 0 0,.slice none 0 0,.slice none 0 0] (0,0) _ rfl (by apply bp5_4_;apply bp5_3_;apply bp5_2_;apply bp5_1_;apply bp5_0_;exact BK.out) Try.underlying29 rfl (by kernel_rfl)) rfl ?_
    exact ⟨_,_,_,_,_,rfl,WC.nil _,below_set (below_set (below_set (below_set (below_set HB.out GE.out) GE.out) GE.out) GE.out) GE.out⟩
def MkSS (W : World) (P : Nat → Prop) (v : Value) (xs : List (List S61)) : Prop:=∃ A c,v = .slice A xs.length c ∧ xs.length ≤ 9223372036854775807 ∧ (0 < xs.length → ∃ ad : Addr,A = some ad ∧ ¬ P ad.block ∧ ad.block < W.heap.size ∧ ∀ i (hi : i < xs.length),∃ (u : Value) (d : Nat),W.cell? (ad.add i) = some u ∧ MkR d W P u xs[i])
theorem MkSS.ints {W W' : World} {P : Nat → Prop} {v : Value} {xs : List (List S61)} (h : MkSS W P v xs) (k : Ints P W W') : MkSS W' P v xs:=by
  obtain ⟨A,c,e,hm,h⟩:=h
  refine ⟨A,c,e,hm,fun hp=>?_⟩
  obtain ⟨ad,ea,hP,hl,hi⟩:=h hp
  refine ⟨ad,ea,hP,Nat.lt_of_lt_of_le hl k.1.size,fun i hx=>?_⟩
  obtain ⟨u,d,hc,hr⟩:=hi i hx
  refine ⟨u,d,?_,MkR.ints k d u _ hr⟩
  rw [← hc]
  have hb : W'.heap[(ad.add i).block]? = W.heap[(ad.add i).block]?:=by
    have e3 : (ad.add i).block = ad.block:=by unfold Addr.add;split <;> rfl
    rw [e3]
    exact k.2.1 ad.block hl hP
  simp only [World.cell?,hb]
theorem mkSS_of {W : World} {base : Nat} {v : Value} {xs : List (List S61)} (h : Kd.R (Kd.slice 61 k61) 41 W base (fun _=>True) v xs) : MkSS W (fun k=>base ≤ k ∧ k < W.heap.size ∧ ∃ cells,W.heap[k]? = some (.cells cells 61 (0,0))) v xs:=by
  obtain ⟨A,c,e,_,hC⟩:=Kd.R_reads h
  refine ⟨A,c,e,hC.2.1,fun hp=>?_⟩
  obtain ⟨g,cap,e2,hb,hl,cells,hg⟩:=Kd.R_form h hp
  subst e2
  injection e with e1 _ _
  refine ⟨⟨g,0,none⟩,e1.symm,fun hz=>?_,hl,fun i hi=>?_⟩
  · obtain ⟨_,_,c2,h2⟩:=hz
    have h3 : W.heap[g]? = some (.cells c2 61 (0,0)):=h2
    rw [hg] at h3
    injection h3 with h4
    injection h4 with _ h5 _
    cases h5
  · obtain ⟨cs,hcl,hM,hcc,_⟩:=Kd.R_elem h ([] : List S61) (i : Int) (by omega) (by omega)
    have ex : xs.getD (i : Int).toNat [] = xs[i]:=by simp [List.getD_eq_getElem?_getD,List.getElem?_eq_getElem hi]
    rw [ex] at hM
    obtain ⟨u,rfl,hu⟩:=hM
    have h0:=hcc 0 u rfl
    refine ⟨u,_,?_,mkR_of _ xs[i] (Nat.le_refl _) W base _ u (Kd.R_mono (Kd.R_bound hu) fun k hk=>⟨hk.2.1,hk.2.2.1,?_⟩)⟩
    · have e3 : (Addr.add ⟨g,0,none⟩ i) = ⟨g,i,none⟩:=by
        unfold Addr.add
        split
        · next h0=>rw [h0]
        · simp
      rw [e3]
      simpa [Kd.slice] using h0
    · obtain ⟨q,hq,hc⟩:=hk.2.2.2
      have : q = 61:=(show ∀ q,q ∈ [61,61] → q = 61 by decide) q hq
      subst this
      exact hc
theorem mark_at (k d : Nat) (u : Value) (x : List S61) (b b1 : Int) (P : Nat → Prop) (w : World) (h1 : MkR d w P u x) (h2 : mkF k x b = some b1) : Calls Try.prog 24 #[u,.int .i64 b] w fun e w'=>e = .returned (.int .i64 b1) ∧ Ints P w w':=mark_says k d u x b b1 P w h1 h2
def mkS (F : List S61 → Int → Option Int) : List (List S61) → Int → Option Int
  | [],a=>some a
  | x :: t,a=>(F x a).bind fun b=>mkS F t b
set_option maxHeartbeats 2000000 in
theorem markSS_says (k : Nat) (v : Value) (xs : List (List S61)) (a r : Int) (P : Nat → Prop) (w : World) (h : MkSS w P v xs) (hm : mkS (mkF k) xs a = some r) :
    Calls Try.prog 10 #[v,.int .i64 a] w fun e w'=>e = .returned (.int .i64 r) ∧ Ints P w w':=by
  obtain ⟨A,c,rfl,hn,hi⟩:=h
  have HI:=Aside0.mk (show MkSS w P (.slice A xs.length c) xs from ⟨A,c,rfl,hn,hi⟩)
  have HM:=Aside0.mk hm
  clear hi hm
  go_enter Try.func10,Try.ntmps10
  go_wp2
  go_loopg [1,5] xs.length (fun gg p1 p5 wr=>∃ (kk : Nat) (b : Int),kk ≤ xs.length ∧ xs.length - kk ≤ gg ∧ p1 = .int .i64 b ∧ p5 = .int .i64 kk ∧ Aside0 (mkS (mkF k) (xs.drop kk) b = some r) ∧ Aside0 (Ints P w wr))
  case atStart=>exact ⟨0,a,Nat.zero_le _,by omega,rfl,rfl,HM,⟨Ints.refl _ _⟩⟩
  case round =>
    obtain ⟨kk,b,hkk,hgk,rfl,rfl,HD,HS⟩:=hrel
    by_cases hlt : kk < xs.length
    · have hltz : decide ((kk : Int) < (xs.length : Int)) = true:=decide_eq_true (by omega)
      have p1 : 0 ≤ (kk : Int):=by omega
      have q1 : (kk : Int) < (xs.length : Int):=by omega
      obtain ⟨A',c',ea,_,hj⟩:=HI.out.ints HS.out
      injection ea with ea1 _ ea2
      obtain ⟨ad,ea3,_,_,hi⟩:=hj (by omega)
      subst ea1
      cases ea3
      obtain ⟨u,d,hx,hr⟩:=hi kk hlt
      have hd : xs.drop kk = xs[kk] :: xs.drop (kk + 1):=List.drop_eq_getElem_cons hlt
      obtain ⟨b1,hb1,hb2⟩:=Option.bind_eq_some_iff.1 (show (mkF k xs[kk] b).bind (fun b=>mkS (mkF k) (xs.drop (kk + 1)) b) = some r by have z:=HD.out;rw [hd] at z;exact z)
      have HR:=Aside0.mk hr
      have HB:=Aside0.mk hb1
      have HE:=Aside0.mk hb2
      clear hr hb1 hb2 hd hi hj ea2
      generalize xs[kk] = x at HR HB
      replace p1:=eq_true p1
      replace q1:=eq_true q1
      go_wp2_with (go_at_call 24;(with_reducible refine (mark_at k d u x b b1 P wr HR.out HB.out).mono ?_);rintro e w1 ⟨rfl,hs⟩)
      go_roundg (xs.length - (kk + 1))
      case measure=>omega
      case rel=>exact ⟨kk + 1,b1,by omega,by omega,rfl,by go_num,HE,⟨HS.out.trans hs⟩⟩
    · have hltz : decide ((kk : Int) < (xs.length : Int)) = false:=decide_eq_false (by omega)
      have hE : b = r:=by
        have z:=HD.out
        rw [List.drop_of_length_le (by omega)] at z
        exact Option.some.inj z
      subst hE
      go_wp2
      go_ret
      exact ⟨rfl,HS.out⟩
end Go.Proofs.Ytdjkmnkgaacmfaa.P

namespace Go.Proofs.Ytdjkmnkgaacmfaa.P
open Go.RowKit Go.Proofs.YtdjkmnkgaacmfaaW.PrintWords Go.Proofs.YtdjkmnkgaacmfaaW.PrintMore
set_option linter.unusedVariables false
set_option linter.unusedSimpArgs false
def progB (p : List (List S61)) : Bool:=p.all okLst && (decide (1 ≤ (p.length : Int)) && decide ((p.length : Int) ≤ 3))
theorem rdl {α : Type} {l : List (List α)} {i : Nat} (h : i < l.length) : l.getD (i : Int).toNat [] ∈ l:=by
  rw [Int.toNat_natCast,List.getD_eq_getElem?_getD,List.getElem?_eq_getElem h]
  exact List.getElem_mem h
theorem dropl {α : Type} (l : List (List α)) {i : Nat} (h : i < l.length) : l.drop i = l.getD (i : Int).toNat [] :: l.drop (i + 1):=by
  rw [List.drop_eq_getElem_cons h,Int.toNat_natCast,List.getD_eq_getElem?_getD,List.getElem?_eq_getElem h]
  rfl
theorem specProg {p : List (List S61)} (hl : p.length ≤ 1048576) (h : ∀ l ∈ p,SL 3 l) : Ev (fun k=>spec_ProgOk.f k p) (progB p):=by
  unfold spec_ProgOk.f
  have key : ∀ e i : Nat,i + e = p.length → Ev (fun k=>spec_ProgOk.l0 k p (i : Int)) ((p.drop i).all okLst && (decide (1 ≤ (p.length : Int)) && decide ((p.length : Int) ≤ 3))):=by
    intro e
    induction e with
    | zero =>
      intro i hi
      rw [List.drop_of_length_le (by omega)]
      refine Evs.succ (fun k=>by simp only [spec_ProgOk.l0];rfl) (Evs.ite_neg (by omega) ?_)
      rw [List.all_nil,Bool.true_and]
      exact ev_and (c:=1 ≤ (p.length : Int)) fun _=>Evs.some_ _
    | succ e ih =>
      intro i hi
      have hlt : i < p.length:=by omega
      rw [dropl p hlt,List.all_cons,Bool.and_assoc]
      refine Evs.succ (fun k=>by simp only [spec_ProgOk.l0];rfl) (Evs.ite_pos (by omega) (Evs.ite_pos (by omega) (Evs.bind (specOk (h _ (rdl hlt))) (ev_band fun _=>?_))))
      rw [wrap_succ (by omega)]
      exact ih (i + 1) (by omega)
  exact key p.length 0 (by omega)
theorem listG_ev : ∀ p : List (List S61),Ev (fun k=>listG (impl_StmtsOk.f k) p) (p.all okLst)
  | []=>Evs.some_ _
  | x :: t=>by
    rw [List.all_cons]
    exact Evs.bind (implOk x) (ev_band fun _=>listG_ev t)
theorem implProg (p : List (List S61)) : Ev (fun k=>impl_ProgOk.f k p) (progB p):=by
  unfold impl_ProgOk.f progB
  rw [Bool.and_comm,Bool.and_assoc]
  exact ev_and (c:=1 ≤ (p.length : Int)) fun _=>ev_and (c:=(p.length : Int) ≤ 3) fun _=>listG_ev p
def CopyLL (l : List (List S56)) (ts : List (List S61)) : Prop:=Ev (fun k=>laws_toStmtSS.f k l) ts ∧ ts.length ≤ 1048576 ∧ (∀ t ∈ ts,SL 3 t) ∧ Ev (fun k=>laws_eqStmtSS.f k ts ts) true
def BdLL (l : List (List S56)) : Prop:=∃ (w : World) (A : Option Addr),Kd.C (Kd.slice 56 k56) w A l.length l
theorem bdLL_elem {l : List (List S56)} (h : BdLL l) {i : Nat} (hi : i < l.length) : BdL (l.getD (i : Int).toNat []):=by
  obtain ⟨w,A,h⟩:=h
  obtain ⟨ad,c,e,_,hK,_⟩:=Kd.C_get h ([] : List S56) (i : Int) (by omega) (by omega)
  obtain ⟨A0,c0,_,_,g⟩:=hK
  exact ⟨w,A0,g⟩
open Classical in
noncomputable def cpyL (x : List S56) : List S61:=if h : ∃ t,CopyL x t then h.choose else []
theorem cpyL_of {x : List S56} (h : ∃ t,CopyL x t) : CopyL x (cpyL x):=by
  unfold cpyL
  rw [dif_pos h]
  exact h.choose_spec
theorem copyL_unique {x : List S56} {t u : List S61} (h : CopyL x t) (k : CopyL x u) : t = u:=Evs.unique h.1 k.1
theorem szLL_loop (l : List (List S56)) (hl : l.length ≤ 1048576) (hb : BdLL l) (d : Nat) : ∀ (i : Nat) (m : Int),i + d = l.length → 0 ≤ m → m ≤ 1048576 →
    ∃ r : Int,Ev (fun k=>laws_szStmtSS.l0 k l m (i : Int)) r ∧ (r < 0 ∨ (0 ≤ r ∧ r ≤ m ∧ (∀ j : Nat,i ≤ j → j < l.length → ∃ t,CopyL (l.getD (j : Int).toNat []) t) ∧ MkV (fun k a=>mkS (mkF k) ((l.drop i).map cpyL) a) (m - r))):=by
  induction d with
  | zero =>
    intro i m hi h0 h1
    refine ⟨m,?_,.inr ⟨h0,Int.le_refl _,fun j h1 h2=>absurd h2 (by omega),fun a a0 a1=>⟨a,by rw [List.drop_of_length_le (by omega)];exact Evs.some_ _,Int.le_refl _,by omega⟩⟩⟩
    refine Evs.succ (fun k=>by simp only [laws_szStmtSS.l0];rfl) ?_
    exact Evs.ite_neg (by omega) (Evs.some_ _)
  | succ d ih =>
    intro i m hi h0 h1
    obtain ⟨r,hr,c⟩:=lawL _ (bdLL_elem hb (i:=i) (by omega)) m h0 h1
    rcases c with c | ⟨c0,c1,t,c2,c3⟩
    · refine ⟨-1,?_,.inl (by omega)⟩
      refine Evs.succ (fun k=>by simp only [laws_szStmtSS.l0];rfl) ?_
      exact Evs.ite_pos (by omega) (Evs.ite_pos (by omega) (Evs.bind hr (Evs.ite_pos c (Evs.some_ _))))
    · obtain ⟨q,hq,e⟩:=ih (i + 1) r (by omega) c0 (by omega)
      refine ⟨q,?_,?_⟩
      · refine Evs.succ (fun k=>by simp only [laws_szStmtSS.l0];rfl) ?_
        refine Evs.ite_pos (by omega) (Evs.ite_pos (by omega) (Evs.bind hr (Evs.ite_neg (by omega) ?_)))
        rw [wrap_succ (by omega)]
        exact hq
      · rcases e with e | ⟨e0,e1,e2,e3⟩
        · exact .inl e
        · refine .inr ⟨e0,by omega,fun j h1 h2=>?_,?_⟩
          · by_cases hj : j = i
            · rw [hj]
              exact ⟨t,c2⟩
            · exact e2 j (by omega) h2
          · have ed : (l.drop i).map cpyL = t :: (l.drop (i + 1)).map cpyL:=by
              rw [dropl l (by omega),List.map_cons,copyL_unique (cpyL_of ⟨t,c2⟩) c2]
            rw [ed]
            intro a a0 a1
            obtain ⟨b,hb,b0,b1⟩:=c3 a a0 (by omega)
            obtain ⟨c,hc,d0,d1⟩:=e3 b (by omega) (by omega)
            exact ⟨c,Evs.bind hb hc,by omega,by omega⟩
theorem copyLL_of (l : List (List S56)) (hl : l.length ≤ 1048576) (h : ∀ j : Nat,j < l.length → ∃ t,CopyL (l.getD (j : Int).toNat []) t) : CopyLL l (l.map cpyL):=by
  have hx : ∀ x ∈ l,CopyL x (cpyL x):=by
    intro x hx
    obtain ⟨i,hi,rfl⟩:=List.mem_iff_getElem.1 hx
    have:=h i hi
    rw [Int.toNat_natCast,List.getD_eq_getElem?_getD,List.getElem?_eq_getElem hi] at this
    exact cpyL_of this
  have hi' : ∀ i : Nat,i < l.length → CopyL (l.getD (i : Int).toNat []) (cpyL (l.getD i [])):=by
    intro i hi
    have e:=hx _ (rdl hi)
    rwa [Int.toNat_natCast] at e ⊢
  refine ⟨?_,by simpa using hl,fun t ht=>?_,?_⟩
  · unfold laws_toStmtSS.f
    refine Evs.ite_pos (by omega) (Evs.ite_pos (by omega) ?_)
    rw [Int.toNat_natCast]
    refine map_loop (fun k acc i=>laws_toStmtSS.l0 k l acc i) l [] _ cpyL (fun i acc r hi ha hr=>?_) (fun acc ha=>?_)
    · have hc:=(hi' i hi).1
      refine Evs.succ (fun k=>by simp only [laws_toStmtSS.l0];rfl) ?_
      refine Evs.ite_pos (by omega) (Evs.ite_pos (by omega) (Evs.bind hc (Evs.ite_pos (by omega) ?_)))
      rw [wrap_succ (by omega),Int.toNat_natCast]
      exact hr
    · refine Evs.succ (fun k=>by simp only [laws_toStmtSS.l0];rfl) ?_
      exact Evs.ite_neg (by omega) (Evs.some_ _)
  · obtain ⟨x,hx1,rfl⟩:=List.mem_map.1 ht
    exact (hx x hx1).sl 3
  · unfold laws_eqStmtSS.f
    refine Evs.ite_pos (by trivial) ?_
    refine all_true_loop (fun k i=>laws_eqStmtSS.l0 k (l.map cpyL) (l.map cpyL) i) (l.map cpyL).length (fun i r hi hr=>?_) ?_
    · have hi2 : i < l.length:=by simpa using hi
      have e : (l.map cpyL).getD (i : Int).toNat [] = cpyL (l.getD i []):=by
        rw [Int.toNat_natCast,List.getD_eq_getElem?_getD,List.getElem?_map,List.getElem?_eq_getElem hi2,List.getD_eq_getElem?_getD,List.getElem?_eq_getElem hi2]
        rfl
      have q:=(hi' i hi2).eq
      rw [← e] at q
      refine Evs.succ (fun k=>by simp only [laws_eqStmtSS.l0];rfl) ?_
      refine Evs.ite_pos (by omega) (Evs.ite_pos (by omega) (Evs.ite_pos (by omega) (Evs.bind q (Evs.ite_pos rfl ?_))))
      rw [wrap_succ (by rw [List.length_map] at hi;omega)]
      exact hr
    · refine Evs.succ (fun k=>by simp only [laws_eqStmtSS.l0];rfl) ?_
      exact Evs.ite_neg (by omega) (Evs.some_ _)
theorem lawLL (l : List (List S56)) (hb : BdLL l) (m : Int) (h0 : 0 ≤ m) (h1 : m ≤ 1048576) : ∃ r : Int,Ev (fun k=>laws_szStmtSS.f k l m) r ∧ (r < 0 ∨ (0 ≤ r ∧ r ≤ m ∧ ∃ ts,CopyLL l ts ∧ (∀ t ∈ ts,Ev (fun k=>laws_eqStmtS.f k t t) true) ∧ MkV (fun k a=>mkS (mkF k) ts a) (m - r))):=by
  have hl : l.length ≤ 9223372036854775807:=by
    obtain ⟨w,A,h⟩:=hb
    exact h.2.1
  have ew : wrap64 (m - (l.length : Int)) = m - (l.length : Int):=wrap_id (by omega) (by omega)
  unfold laws_szStmtSS.f
  simp only [ew]
  by_cases c : m - (l.length : Int) < 0
  · exact ⟨-1,Evs.ite_pos c (Evs.some_ _),.inl (by omega)⟩
  · obtain ⟨r,hr,e⟩:=szLL_loop l (by omega) hb l.length 0 (m - (l.length : Int)) (by omega) (by omega) (by omega)
    refine ⟨r,Evs.ite_neg c hr,?_⟩
    rcases e with e | ⟨e0,e1,e2,e3⟩
    · exact .inl e
    · refine .inr ⟨e0,by omega,_,copyLL_of l (by omega) fun j hj=>e2 j (by omega) hj,fun t ht=>?_,fun a a0 a1=>?_⟩
      · obtain ⟨x,hx1,rfl⟩:=List.mem_map.1 ht
        obtain ⟨j,hj,rfl⟩:=List.mem_iff_getElem.1 hx1
        have e:=e2 j (by omega) hj
        rw [Int.toNat_natCast,List.getD_eq_getElem?_getD,List.getElem?_eq_getElem hj] at e
        exact (cpyL_of e).eq
      · obtain ⟨b,hb,b0,b1⟩:=e3 a a0 (by omega)
        exact ⟨b,hb,b0,by omega⟩
end Go.Proofs.Ytdjkmnkgaacmfaa.P

namespace Go.Proofs.Ytdjkmnkgaacmfaa.P
open Go.RowKit Go.Proofs.YtdjkmnkgaacmfaaW.PrintWords Go.Proofs.YtdjkmnkgaacmfaaW.PrintLast Go.Proofs.YtdjkmnkgaacmfaaW.PrintMore
attribute [local go_sem] max2_int min2_int max_two min_two max_three min_three max_four min_four
set_option linter.unusedVariables false
set_option linter.unusedSimpArgs false
set_option maxHeartbeats 2000000 in
theorem markII_says (A : Option Addr) (c : Nat) (l : List (List Int)) (a : Int) (w : World) (hr : Kd.C (Kd.slice 3 (Kd.int .i64)) w A l.length l) (hm : l.length ≤ 9223372036854775807) (hz : ∀ q ∈ l,q = []) :
    Calls Try.prog 27 #[.slice A l.length c,.int .i64 a] w fun e w'=>e = .returned (.int .i64 a) ∧ w' = w:=by
  have HR:=Aside0.mk hr
  have HZ:=Aside0.mk hz
  clear hr hz
  go_enter Try.func27,Try.ntmps27
  go_wp2
  go_loopg [1,5] l.length (fun gg p1 p5 wr=>∃ (kk : Nat),kk ≤ l.length ∧ l.length - kk ≤ gg ∧ p1 = .int .i64 a ∧ p5 = .int .i64 kk ∧ wr = w)
  case atStart=>exact ⟨0,Nat.zero_le _,by omega,rfl,rfl,rfl⟩
  case round =>
    obtain ⟨kk,hkk,hgk,rfl,rfl,rfl⟩:=hrel
    by_cases hlt : kk < l.length
    · have hltz : decide ((kk : Int) < (l.length : Int)) = true:=decide_eq_true (by omega)
      have p1 : 0 ≤ (kk : Int):=by omega
      have q1 : (kk : Int) < (l.length : Int):=by omega
      obtain ⟨ad,Al,cl,ea,hx,hl,hi⟩:=at_L3 HR.out (kk : Int) p1 q1
      cases ea
      have hgx : rd_L3 l (kk : Int) = []:=by
        have : rd_L3 l (kk : Int) = l[kk]'hlt:=by simp [rd_L3,List.getD_eq_getElem?_getD,List.getElem?_eq_getElem hlt]
        rw [this]
        exact HZ.out _ (List.getElem_mem hlt)
      rw [hgx] at hx
      simp only [Int.toNat_natCast,List.length_nil] at hx
      clear hi hl hgx
      replace p1:=eq_true p1
      replace q1:=eq_true q1
      go_wp2_with (go_at_call 26;(with_reducible refine (markI_nil Al cl a _).mono ?_);rintro e w1 ⟨rfl,rfl⟩)
      go_roundg (l.length - (kk + 1))
      case measure=>omega
      case rel=>exact ⟨kk + 1,by omega,by omega,rfl,by go_num,rfl⟩
    · have hltz : decide ((kk : Int) < (l.length : Int)) = false:=decide_eq_false (by omega)
      go_wp2
      go_ret
      exact ⟨rfl,rfl⟩
theorem markS_nil (A : Option Addr) (c : Nat) (a : Int) (w : World) : Calls Try.prog 28 #[.slice A 0 c,.int .i64 a] w fun e w'=>e = .returned (.int .i64 a) ∧ w' = w:=by
  go_enter Try.func28,Try.ntmps28
  go_wp2
  go_loopg [1,5] 1 (fun gg v1 v5 wr=>v1 = .int .i64 a ∧ v5 = .int .i64 0 ∧ wr = w)
  case atStart=>exact ⟨rfl,rfl,rfl⟩
  case round =>
    obtain ⟨rfl,rfl,rfl⟩:=hrel
    go_wp2
    go_ret
    exact ⟨rfl,rfl⟩
theorem Frm.below {P : Nat → Prop} {w w' : World} {n : Nat} (h : Frm P w w') (hp : ∀ k,P k → n ≤ k) : Below n w w':=⟨h.2.2.os,h.2.2.tape,h.2.2.output,h.2.2.size,fun k hk=>h.1 k fun z=>by have:=hp k z;omega⟩
theorem Frm.blk {P : Nat → Prop} {w w' : World} {g : Nat} {o : Obj} (h : Frm P w w') (hb : w.heap[g]? = some o) (hg : ¬ P g) : w'.heap[g]? = some o:=(h.1 g hg).trans hb
def WorldM (d n M : Nat) (x0 : List S59) (x1 x2 : List Int) (x3 : List (List Int)) (v0 v1 v2 v3 : Value) (w' : World) : Prop:=∃ P0 : Nat → Prop,RowP d w' P0 v0 x0 ∧ RowI w' (fun k=>some k = v1.ownBlock ∧ k < M) v1 x1 ∧ RowI w' (fun k=>some k = v2.ownBlock ∧ k < M) v2 x2 ∧ Kd.S (Kd.slice 3 (Kd.int .i64)) 25 w' n (fun k=>¬ P0 k ∧ some k ≠ v1.ownBlock ∧ some k ≠ v2.ownBlock ∧ k < M) v3 x3 ∧ (∀ k,P0 k → n ≤ k ∧ k < M ∧ some k ≠ v1.ownBlock ∧ some k ≠ v2.ownBlock) ∧ (∀ k,some k = v1.ownBlock → n ≤ k ∧ some k ≠ v2.ownBlock) ∧ (∀ k,some k = v2.ownBlock → n ≤ k) ∧ ∀ q ∈ x3,q = []
theorem WorldR.toM {d n : Nat} {x0 : List S59} {x1 x2 : List Int} {x3 : List (List Int)} {v0 v1 v2 v3 : Value} {w : World} (h : WorldR d n x0 x1 x2 x3 v0 v1 v2 v3 w) : WorldM d n w.heap.size x0 x1 x2 x3 v0 v1 v2 v3 w:=by
  obtain ⟨P,a,b,c,e,f,g,i,j⟩:=h
  exact ⟨P,a,b.lt,c.lt,Kd.S_mono (Kd.S_bound e) fun k hk=>⟨hk.1.1,hk.1.2.1,hk.1.2.2,hk.2.2.1⟩,f,g,i,j⟩
theorem WorldM.move {d n M : Nat} {x0 : List S59} {x1 x2 : List Int} {x3 : List (List Int)} {v0 v1 v2 v3 : Value} {w w' : World} (h : WorldM d n M x0 x1 x2 x3 v0 v1 v2 v3 w) (hf : ∀ k,n ≤ k → k < M → w'.heap[k]? = w.heap[k]?) : WorldM d n M x0 x1 x2 x3 v0 v1 v2 v3 w':=by
  obtain ⟨P,a,b,c,e,f,g,i,j⟩:=h
  refine ⟨P,a.frame fun k hk=>hf k (f k hk).1 (f k hk).2.1,b.frame fun k hk=>hf k (g k hk.1).1 hk.2,c.frame fun k hk=>hf k (i k hk.1) hk.2,?_,f,g,i,j⟩
  exact Kd.S_mono (Kd.S_move (Kd.S_bound e) (fun k hk=>hf k hk.2.1 hk.1.2.2.2)) (fun k hk=>hk.1)
def Frn (n M : Nat) (w w' : World) : Prop:=Below 0 w w' ∧ ∀ k,k < w.heap.size → ¬ (n ≤ k ∧ k < M) → w'.heap[k]? = w.heap[k]?
theorem Frn.refl (n M : Nat) (w : World) : Frn n M w w:=⟨Below.refl _ _,fun _ _ _=>rfl⟩
theorem Below.zero {n : Nat} {w w' : World} (h : Below n w w') : Below 0 w w':=⟨h.os,h.tape,h.output,h.size,fun k hk=>absurd hk (Nat.not_lt_zero k)⟩
theorem Frn.below {n M : Nat} {w w1 w2 : World} (h : Frn n M w w1) (hb : Below w1.heap.size w1 w2) : Frn n M w w2:=⟨h.1.trans (Below.zero hb),fun k hk hn=>(hb.block k (Nat.lt_of_lt_of_le hk h.1.size)).trans (h.2 k hk hn)⟩
theorem Frn.frm {n M : Nat} {P : Nat → Prop} {w w1 w2 : World} (h : Frn n M w w1) (hf : Frm P w1 w2) (hP : ∀ k,P k → n ≤ k ∧ k < M) : Frn n M w w2:=⟨h.1.trans hf.2.2,fun k hk hn=>(hf.1 k fun z=>hn (hP k z)).trans (h.2 k hk hn)⟩
set_option maxHeartbeats 4000000 in
set_option maxRecDepth 100000 in
theorem markM_says (d n M : Nat) (x0 : List S59) (x1 x2 : List Int) (x3 : List (List Int)) (v0 v1 v2 v3 : Value) (a : Int) (w : World) (h : WorldM d n M x0 x1 x2 x3 v0 v1 v2 v3 w) (hn : M ≤ w.heap.size) :
    Calls Try.prog 11 #[.agg #[v0,v1,v2,v3,.slice none 0 0],.int .i64 a] w fun e w'=>e = .returned (.int .i64 (mkI x2 (mkI x1 (mkPL d x0 a).2).2).2) ∧ WorldM d n M (mkPL d x0 a).1 (mkI x1 (mkPL d x0 a).2).1 (mkI x2 (mkI x1 (mkPL d x0 a).2).2).1 x3 v0 v1 v2 v3 w' ∧ Frn n M w w':=by
  obtain ⟨P0,h0,h1,h2,h3,q0,q1,q2,hz⟩:=h
  obtain ⟨A0,c0,e0⟩:=h0.slice
  obtain ⟨A1,c1,e1⟩:=h1.slice
  obtain ⟨A2,c2,e2⟩:=h2.slice
  obtain ⟨A3,c3,e3⟩:=Kd.S_slice h3
  obtain ⟨n0,hn0⟩ : ∃ z,z = x0.length:=⟨_,rfl⟩
  obtain ⟨n1,hn1⟩ : ∃ z,z = x1.length:=⟨_,rfl⟩
  obtain ⟨n2,hn2⟩ : ∃ z,z = x2.length:=⟨_,rfl⟩
  rw [← hn0] at e0
  rw [← hn1] at e1
  rw [← hn2] at e2
  subst e0;subst e1;subst e2;subst e3
  obtain ⟨R0,hR0⟩ : ∃ R0,R0 = mkPL d x0 a:=⟨_,rfl⟩
  obtain ⟨R1,hR1⟩ : ∃ R1,R1 = mkI x1 R0.2:=⟨_,rfl⟩
  obtain ⟨R2,hR2⟩ : ∃ R2,R2 = mkI x2 R1.2:=⟨_,rfl⟩
  rw [← hR0,← hR1,← hR2]
  have H0:=Aside0.mk h0
  have H1:=Aside0.mk h1
  have H2:=Aside0.mk h2
  have H3:=Aside0.mk h3
  have Q0:=Aside0.mk q0
  have Q1:=Aside0.mk q1
  have Q2:=Aside0.mk q2
  have HZ:=Aside0.mk hz
  have HN:=Aside0.mk hn
  have N0:=Aside0.mk hR0
  have N1:=Aside0.mk hR1
  have N2:=Aside0.mk hR2
  have HB:=Aside0.mk (Frn.refl n M w)
  clear h0 h1 h2 h3 q0 q1 q2 hz hn hR0 hR1 hR2 hn0 hn1 hn2
  go_enter Try.func11,Try.ntmps11
  go_wp2_with (first | ((with_reducible refine gate_dst (N:=2) rfl ?_);refine box_event ?hg (N:=2) ?hd (cs:=#[.slice A0 n0 c0,.slice A1 n1 c1,.slice A2 n2 c2,.slice A3 x3.length c3,.slice none 0 0]) (t:=29) ?hr ?_;(case hd=>rfl);(case hg=>rfl);(case hr=>first | (go_simp;done) | (go_simp;rfl));intro gb hg w5 hbox hb;have n0_:=Aside0.mk (HB.out.below hb);have n1_:=Aside0.mk hbox;have HG:=Aside0.mk hg;have n2_:=Aside0.mk (H0.out.frame fun k hk=>hb.block k (Nat.lt_of_lt_of_le (Q0.out k hk).2.1 HN.out));have n3_:=Aside0.mk (H1.out.frame fun k hk=>hb.block k (Nat.lt_of_lt_of_le hk.2 HN.out));have n4_:=Aside0.mk (H2.out.frame fun k hk=>hb.block k (Nat.lt_of_lt_of_le hk.2 HN.out));have n5_:=Aside0.mk (Kd.S_below (Kd.S_bound H3.out) hb);clear HB H0 H1 H2 H3;have HB:=n0_;have BK:=n1_;have H0:=n2_;have H1:=n3_;have H2:=n4_;have H3:=n5_;have HN1:=Aside0.mk hb.size;clear n0_ n1_ n2_ n3_ n4_ n5_ hb hbox hg;obtain ⟨hcz_0,hcz_1,hcz_2,hcz_3,hcz_4,hfz_0,hfz_1,hfz_2,hfz_3,hfz_4⟩:=bz5_ BK) | (go_at_call 25;(with_reducible refine (markP_says d _ x0 a P0 _ H0.out).mono ?_);rintro e w6 ⟨he,ht,hf⟩;rw [← N0.out] at he ht;subst he;have n0_:=Aside0.mk ht;have n1_:=Aside0.mk (H1.out.frame fun k hk=>hf.1 k fun z=>(Q0.out k z).2.2.1 hk.1);have n2_:=Aside0.mk (H2.out.frame fun k hk=>hf.1 k fun z=>(Q0.out k z).2.2.2 hk.1);have n3_:=Aside0.mk (Kd.S_move H3.out fun k hk=>hf.1 k hk.1.1);have n4_:=Aside0.mk (HB.out.frm hf fun k hk=>⟨(Q0.out k hk).1,(Q0.out k hk).2.1⟩);have n5_:=Aside0.mk (hf.blk BK.out fun z=>by have:=(Q0.out _ z).2.1;have:=HG.out;have:=HN.out;omega);have n6_:=Aside0.mk (Nat.le_trans HN1.out hf.2.2.size);clear H0 H1 H2 H3 HB BK HN1 ht hf hcz_0 hcz_1 hcz_2 hcz_3 hcz_4 hfz_0 hfz_1 hfz_2 hfz_3 hfz_4;have H0:=n0_;have H1:=n1_;have H2:=n2_;have H3:=n3_;have HB:=n4_;have BK:=n5_;have HN1:=n6_;clear n0_ n1_ n2_ n3_ n4_ n5_ n6_;obtain ⟨hcz_0,hcz_1,hcz_2,hcz_3,hcz_4,hfz_0,hfz_1,hfz_2,hfz_3,hfz_4⟩:=bz5_ BK) | (go_at_call 26;(with_reducible refine (markI_says _ x1 R0.2 _ _ H1.out).mono ?_);rintro e w7 ⟨he,ht,hf⟩;rw [← N1.out] at he ht;subst he;have n0_:=Aside0.mk (H0.out.frame fun k hk=>hf.1 k fun z=>(Q0.out k hk).2.2.1 z.1);have n1_:=Aside0.mk ht;have n2_:=Aside0.mk (H2.out.frame fun k hk=>hf.1 k fun z=>(Q1.out k z.1).2 hk.1);have n3_:=Aside0.mk (Kd.S_move H3.out fun k hk=>hf.1 k fun z=>hk.1.2.1 z.1);have n4_:=Aside0.mk (HB.out.frm hf fun k hk=>⟨(Q1.out k hk.1).1,hk.2⟩);have n5_:=Aside0.mk (hf.blk BK.out fun z=>by have:=z.2;have:=HG.out;have:=HN.out;omega);have n6_:=Aside0.mk (Nat.le_trans HN1.out hf.2.2.size);clear H0 H1 H2 H3 HB BK HN1 ht hf hcz_0 hcz_1 hcz_2 hcz_3 hcz_4 hfz_0 hfz_1 hfz_2 hfz_3 hfz_4;have H0:=n0_;have H1:=n1_;have H2:=n2_;have H3:=n3_;have HB:=n4_;have BK:=n5_;have HN1:=n6_;clear n0_ n1_ n2_ n3_ n4_ n5_ n6_;obtain ⟨hcz_0,hcz_1,hcz_2,hcz_3,hcz_4,hfz_0,hfz_1,hfz_2,hfz_3,hfz_4⟩:=bz5_ BK) | (go_at_call 26;(with_reducible refine (markI_says _ x2 R1.2 _ _ H2.out).mono ?_);rintro e w8 ⟨he,ht,hf⟩;rw [← N2.out] at he ht;subst he;have n0_:=Aside0.mk (H0.out.frame fun k hk=>hf.1 k fun z=>(Q0.out k hk).2.2.2 z.1);have n1_:=Aside0.mk (H1.out.frame fun k hk=>hf.1 k fun z=>(Q1.out k hk.1).2 z.1);have n2_:=Aside0.mk ht;have n3_:=Aside0.mk (Kd.S_move H3.out fun k hk=>hf.1 k fun z=>hk.1.2.2.1 z.1);have n4_:=Aside0.mk (HB.out.frm hf fun k hk=>⟨Q2.out k hk.1,hk.2⟩);have n5_:=Aside0.mk (hf.blk BK.out fun z=>by have:=z.2;have:=HG.out;have:=HN.out;omega);have n6_:=Aside0.mk (Nat.le_trans HN1.out hf.2.2.size);clear H0 H1 H2 H3 HB BK HN1 ht hf hcz_0 hcz_1 hcz_2 hcz_3 hcz_4 hfz_0 hfz_1 hfz_2 hfz_3 hfz_4;have H0:=n0_;have H1:=n1_;have H2:=n2_;have H3:=n3_;have HB:=n4_;have BK:=n5_;have HN1:=n6_;clear n0_ n1_ n2_ n3_ n4_ n5_ n6_;obtain ⟨hcz_0,hcz_1,hcz_2,hcz_3,hcz_4,hfz_0,hfz_1,hfz_2,hfz_3,hfz_4⟩:=bz5_ BK) | (go_at_call 27;have z1:=(Kd.S_reads' H3.out).2.2;have z2:=z1.2.1;(with_reducible refine (markII_says A3 c3 x3 R2.2 _ z1 z2 HZ.out).mono ?_);clear z1 z2;rintro e w9 ⟨rfl,rfl⟩) | (go_at_call 28;(with_reducible refine (markS_nil none 0 R2.2 _).mono ?_);rintro e w9 ⟨rfl,rfl⟩))
  go_ret
  exact ⟨rfl,⟨P0,H0.out,H1.out,H2.out,Kd.S_mono H3.out fun k hk=>hk.1,Q0.out,Q1.out,Q2.out,HZ.out⟩,HB.out⟩
end Go.Proofs.Ytdjkmnkgaacmfaa.P
