/- The program's WorldSame is the reference's and leaves its arguments as they were, for every two worlds; no condition. -/
import Derived.Test.YthbflhimmmfonaaSFnExactWorldSame
import Derived.Test.YthbflhimmmfonaaAlike
import Derived.Test.YthbflhimmmfonaaWSame
import Derived.Test.YthbflhimmmfonaaFSpecWorldSame
import Derived.Test.YthbflhimmmfonaaFImplWorldSame
namespace Go.Proofs.Ythbflhimmmfonaa.Pure
open Go.RowKit Go.Proofs.Ythbflhimmmfonaa.P Go.Proofs.YthbflhimmmfonaaW.PrintWords Go.Proofs.YthbflhimmmfonaaW.PrintLast
open Go.Proofs.Ythbflhimmmfonaa.P Go.Proofs.YthbflhimmmfonaaW.PrintMore
def GoodIP (x : S84) : Prop := x.f0.length ≤ 1048576 ∧ Sm x.f1
noncomputable def procB (x y : S84) : Bool := eqN x.f0 y.f0 && (alB x.f1 y.f1 && (decide (x.f2 = y.f2) && (decide (x.f3 = y.f3) && decide (x.f4 = y.f4))))
theorem specProc {x y : S84} (hx : GoodIP x) (hy : GoodIP y) : Ev (fun k => spec_l3Proc.f k x.f0 x.f1 x.f2 x.f3 x.f4 y.f0 y.f1 y.f2 y.f3 y.f4) (procB x y) := by
  unfold spec_l3Proc.f procB
  refine Evs.bind (specInts hx.1) (ev_band fun _ => Evs.bind (specAlike hx.2 hy.2) (ev_band fun _ => ev_and fun _ => ev_and fun _ => ?_))
  exact Evs.some_ _
theorem implProc {x y : S84} (hx : GoodIP x) : Ev (fun k => procV k x y) (procB x y) := by
  unfold procV procB
  refine Evs.bind (implInts hx.1) (ev_band fun _ => Evs.bind (implAlike x.f1 y.f1) (ev_band fun _ => ev_and fun _ => ev_and fun _ => ?_))
  rw [← Bool.and_true (decide (x.f4 = y.f4))]
  exact ev_and fun _ => Evs.some_ _
theorem eqM2_ev {α β : Type} {T : Nat → α → β → Option Bool} {p : α → β → Bool} : ∀ (a : List α) (b : List β), a.length = b.length → (∀ x ∈ a, ∀ y ∈ b, Ev (fun k => T k x y) (p x y)) → Ev (fun k => eqM2 (T k) a b) (zipB p a b)
  | [], [], _, _ => Evs.some_ _
  | [], _ :: _, h, _ => by simp at h
  | _ :: _, [], h, _ => by simp at h
  | x :: t, y :: u, hl, h => Evs.bind (h x (List.mem_cons_self ..) y (List.mem_cons_self ..)) (ev_band fun _ => eqM2_ev t u (by simpa using hl) fun v hv w hw => h v (List.mem_cons_of_mem _ hv) w (List.mem_cons_of_mem _ hw))
theorem eqL2_ev {α β : Type} {T : Nat → α → β → Option Bool} {p : α → β → Bool} (a : List α) (b : List β) (h : ∀ x ∈ a, ∀ y ∈ b, Ev (fun k => T k x y) (p x y)) : Ev (fun k => eqL2 (T k) a b) (zipB p a b) := by
  unfold eqL2
  by_cases c : a.length = b.length
  · exact Evs.ite_pos c (eqM2_ev a b c h)
  · rw [zipB_len p a b c]
    exact Evs.ite_neg c (Evs.some_ _)
theorem bnot_f {b : Bool} (h : (!b) = false) : b = true := by
  cases b
  · cases h
  · rfl
def sayB (x y : S74) : Bool := !(!(x.f0 == y.f0) || !(x.f1 == y.f1))
theorem rdY_get {l : List S74} {i : Nat} : rd_T74 l (i : Int) = l.getD i z74 := by
  unfold rd_T74
  rw [Int.toNat_natCast]
theorem rdP_get {l : List S84} {i : Nat} : rd_T84 l (i : Int) = l.getD i z84 := by
  unfold rd_T84
  rw [Int.toNat_natCast]
theorem rdL_get {l : List (List Int)} {i : Nat} : rd_L1 l (i : Int) = l.getD i [] := by
  unfold rd_L1
  rw [Int.toNat_natCast]
theorem getIP {l : List S84} {i : Nat} (h : i < l.length) : l.getD i z84 ∈ l := by
  rw [List.getD_eq_getElem?_getD, List.getElem?_eq_getElem h]
  exact List.getElem_mem h
theorem implSays {a b : List S74} (ha : a.length ≤ 1048576) : Ev (fun k => impl_Say.f k a b) (zipB sayB a b) := by
  unfold impl_Say.f
  by_cases c : a.length = b.length
  · rw [← Bool.and_true (zipB _ a b)]
    refine Evs.ite_pos (by omega) (zip_loop (fun k i => impl_Say.l0 k a b a.length i) _ true a b z74 z74 c (fun i r hi hq hr => ?_) (fun i hi hq => ?_) ?_)
    · refine Evs.succ (fun k => by simp only [impl_Say.l0, rdY_get]; rfl) ?_
      unfold sayB at hq
      refine Evs.ite_pos (by omega) (Evs.ite_pos (by omega) (Evs.ite_pos (by omega) (Evs.ite_pos (by omega) (Evs.ite_neg (by simpa using hq) ?_))))
      rw [wrap_succ (by omega)]
      exact hr
    · refine Evs.succ (fun k => by simp only [impl_Say.l0, rdY_get]; rfl) ?_
      unfold sayB at hq
      exact Evs.ite_pos (by omega) (Evs.ite_pos (by omega) (Evs.ite_pos (by omega) (Evs.ite_pos (by omega) (Evs.ite_pos (bnot_f hq) (Evs.some_ _)))))
    · refine Evs.succ (fun k => by simp only [impl_Say.l0]; rfl) ?_
      exact Evs.ite_neg (by omega) (Evs.some_ _)
  · rw [zipB_len _ a b c]
    exact Evs.ite_neg (by omega) (Evs.some_ _)
noncomputable def worldB (p q : List S84) (c d r r2 : List Int) (s s2 : List (List Int)) (x y : List S74) : Bool :=
  eqN c d && (eqN r r2 && (zipB sayB x y && (zipB eqN s s2 && zipB procB p q)))
theorem implWorld (p q : List S84) (c d r r2 : List Int) (s s2 : List (List Int)) (x y : List S74) (hp : ∀ v ∈ p, GoodIP v) (hc : c.length ≤ 1048576) (hr : r.length ≤ 1048576) (hs : ∀ v ∈ s, v.length ≤ 1048576) (hx : x.length ≤ 1048576) :
    Ev (fun k => impl_WorldSame.f k p c r s x q d r2 s2 y) (worldB p q c d r r2 s s2 x y) := by
  unfold impl_WorldSame.f
  refine ev_last ?_
  unfold impl_sameWorld.f worldV worldB
  refine Evs.bind (implInts hc) (ev_band fun _ => Evs.bind (implInts hr) (ev_band fun _ => Evs.bind (implSays hx) (ev_band fun _ => Evs.bind (f := fun k b => if b = true then eqL2 (procV k) p q else some false) (eqL2_ev s s2 fun v hv w _ => implInts (hs v hv)) (ev_band fun _ => ?_))))
  exact eqL2_ev p q fun v hv w _ => implProc (hp v hv)
theorem specWorld (p q : List S84) (c d r r2 : List Int) (s s2 : List (List Int)) (x y : List S74) (hp : ∀ v ∈ p, GoodIP v) (hq : ∀ v ∈ q, GoodIP v) (hpl : p.length ≤ 1048576) (hc : c.length ≤ 1048576) (hr : r.length ≤ 1048576) (hsl : s.length ≤ 1048576) (hs : ∀ v ∈ s, v.length ≤ 1048576) (hx : x.length ≤ 1048576) :
    Ev (fun k => spec_WorldSame.f k p c r s x q d r2 s2 y) (worldB p q c d r r2 s s2 x y) := by
  unfold spec_WorldSame.f worldB
  have no : ∀ v : Bool, v = false → Ev (fun k => spec_WorldSame.j0 k true p c r s x q d r2 s2 y) v := fun v hv => by
    rw [hv]
    exact Evs.succ (fun k => by simp only [spec_WorldSame.j0]; rfl) (Evs.ite_pos (by trivial) (Evs.some_ _))
  by_cases c1 : p.length = q.length
  case neg => exact Evs.ite_neg (by omega) (no _ (by rw [zipB_len procB p q c1]; simp))
  by_cases c2 : s.length = s2.length
  case neg => exact Evs.ite_pos (by omega) (Evs.ite_neg (by omega) (no _ (by rw [zipB_len eqN s s2 c2]; simp)))
  by_cases c3 : x.length = y.length
  case neg => exact Evs.ite_pos (by omega) (Evs.ite_pos (by omega) (Evs.ite_neg (by omega) (no _ (by rw [zipB_len sayB x y c3]; simp))))
  refine Evs.ite_pos (by omega) (Evs.ite_pos (by omega) (Evs.ite_pos (by omega) (Evs.bind (specInts hc) ?_)))
  cases h1 : eqN c d with
  | false => exact Evs.ite_neg (by simp) (no _ (by simp))
  | true =>
    refine Evs.ite_pos rfl (Evs.bind (specInts hr) ?_)
    cases h2 : eqN r r2 with
    | false => exact no _ (by simp)
    | true =>
      refine Evs.succ (fun k => by simp only [spec_WorldSame.j0]; rfl) (Evs.ite_neg (by simp) ?_)
      rw [show (true && (true && (zipB sayB x y && (zipB eqN s s2 && zipB procB p q)))) = (zipB procB p q && (zipB eqN s s2 && (zipB sayB x y && true))) from by
        generalize zipB procB p q = u
        generalize zipB eqN s s2 = v
        generalize zipB sayB x y = w
        cases u <;> cases v <;> cases w <;> rfl]
      refine zip_loop (fun k i => spec_WorldSame.l0 k i p c r s x q d r2 s2 y) _ _ p q z84 z84 c1 (fun i z hi hq1 hz => ?_) (fun i hi hq1 => ?_) ?_
      · have e := specProc (hp _ (getIP (l := p) hi)) (hq _ (getIP (l := q) (i := i) (by omega)))
        rw [hq1] at e
        refine Evs.succ (fun k => by simp only [spec_WorldSame.l0, rdP_get]; rfl) ?_
        refine Evs.ite_pos (by omega) (Evs.ite_pos (by omega) (Evs.ite_pos (by omega) (Evs.bind e (Evs.ite_pos rfl ?_))))
        rw [wrap_succ (by omega)]
        exact hz
      · have e := specProc (hp _ (getIP (l := p) hi)) (hq _ (getIP (l := q) (i := i) (by omega)))
        rw [hq1] at e
        refine Evs.succ (fun k => by simp only [spec_WorldSame.l0, rdP_get]; rfl) ?_
        exact Evs.ite_pos (by omega) (Evs.ite_pos (by omega) (Evs.ite_pos (by omega) (Evs.bind e (Evs.ite_neg (by simp) (Evs.some_ _)))))
      · refine Evs.succ (fun k => by simp only [spec_WorldSame.l0]; rfl) ?_
        refine Evs.ite_neg (by omega) ?_
        refine zip_loop (fun k i => spec_WorldSame.l1 k i p c r s x q d r2 s2 y) _ _ s s2 [] [] c2 (fun i z hi hq1 hz => ?_) (fun i hi hq1 => ?_) ?_
        · have e := specInts (a := s.getD i []) (b := s2.getD i []) (hs _ (getL hi))
          rw [hq1] at e
          refine Evs.succ (fun k => by simp only [spec_WorldSame.l1, rdL_get]; rfl) ?_
          refine Evs.ite_pos (by omega) (Evs.ite_pos (by omega) (Evs.ite_pos (by omega) (Evs.bind e (Evs.ite_pos rfl ?_))))
          rw [wrap_succ (by omega)]
          exact hz
        · have e := specInts (a := s.getD i []) (b := s2.getD i []) (hs _ (getL hi))
          rw [hq1] at e
          refine Evs.succ (fun k => by simp only [spec_WorldSame.l1, rdL_get]; rfl) ?_
          exact Evs.ite_pos (by omega) (Evs.ite_pos (by omega) (Evs.ite_pos (by omega) (Evs.bind e (Evs.ite_neg (by simp) (Evs.some_ _)))))
        · refine Evs.succ (fun k => by simp only [spec_WorldSame.l1]; rfl) ?_
          refine Evs.ite_neg (by omega) ?_
          refine zip_loop (fun k i => spec_WorldSame.l2 k i p c r s x q d r2 s2 y) _ _ x y z74 z74 c3 (fun i z hi hq1 hz => ?_) (fun i hi hq1 => ?_) ?_
          · refine Evs.succ (fun k => by simp only [spec_WorldSame.l2, rdY_get]; rfl) ?_
            unfold sayB at hq1
            refine Evs.ite_pos (by omega) (Evs.ite_pos (by omega) (Evs.ite_pos (by omega) (Evs.ite_neg (by simpa using hq1) ?_)))
            rw [wrap_succ (by omega)]
            exact hz
          · refine Evs.succ (fun k => by simp only [spec_WorldSame.l2, rdY_get]; rfl) ?_
            unfold sayB at hq1
            exact Evs.ite_pos (by omega) (Evs.ite_pos (by omega) (Evs.ite_pos (by omega) (Evs.ite_pos (bnot_f hq1) (Evs.some_ _))))
          · refine Evs.succ (fun k => by simp only [spec_WorldSame.l2]; rfl) ?_
            exact Evs.ite_neg (by omega) (Evs.some_ _)
theorem goodIP {l : List S117} (h : GoodPs l) : ∀ v ∈ l.map cpyP, GoodIP v := by
  intro v hv
  obtain ⟨x, hx, rfl⟩ := List.mem_map.1 hv
  have g := h.2 x hx
  have e := cpyP_of g
  exact ⟨g.1, e.2.1, e.2.2.1⟩
theorem FnExactWorldSame : laws_FnExactWorldSame.Pure := by
  intro p c r s d p2 c2 r2 s2 d2 hp hc hr hs hd hp2 hc2 hr2 hs2 hd2
  refine Ev.rounds (g := fun k => laws_FnExactWorldSame.f k p c r s d p2 c2 r2 s2 d2) ?_
  unfold laws_FnExactWorldSame.f
  obtain ⟨a, ea, ca⟩ := szW p c r s d hp hc hr hs hd 1048576 (by omega) (by omega)
  refine Evs.bind ea ?_
  rcases ca with ca | ⟨a0, a1, ga⟩
  · exact Evs.ite_pos ca (Evs.some_ _)
  obtain ⟨b, eb, cb⟩ := szW p2 c2 r2 s2 d2 hp2 hc2 hr2 hs2 hd2 a a0 (by omega)
  refine Evs.ite_neg (by omega) (Evs.bind eb ?_)
  rcases cb with cb | ⟨b0, b1, gb⟩
  · exact Evs.ite_pos cb (Evs.some_ _)
  have ss := specWorld (p.map cpyP) (p2.map cpyP) c c2 r r2 s s2 (d.map sayOf) (d2.map sayOf) (goodIP ga.p) (goodIP gb.p) (by rw [List.length_map]; exact ga.p.1) ga.c ga.r ga.s.1 ga.s.2 (by rw [List.length_map]; exact ga.d)
  have si := implWorld (p.map cpyP) (p2.map cpyP) c c2 r r2 s s2 (d.map sayOf) (d2.map sayOf) (goodIP ga.p) ga.c ga.r ga.s.2 (by rw [List.length_map]; exact ga.d)
  exact Evs.ite_neg (by omega) (Evs.bind (toW ga) (Evs.bind (toW gb) (Evs.bind ss (Evs.bind (toW ga) (Evs.bind (toW gb) (Evs.bind si (Evs.ite_neg (by simp) (Evs.bind (toW ga) (Evs.bind (eqW ga) (Evs.ite_pos rfl (Evs.bind (toW gb) (Evs.bind (eqW gb) (Evs.ite_pos rfl (Evs.some_ _))))))))))))))
end Go.Proofs.Ythbflhimmmfonaa.Pure
