/- Parts of the proof of FnProgSame: plain Lean functions of Go functions, and that the calls come to what they say; no condition beyond those that each theorem names. -/
import Derived.Test.YtnegnanlbdncmaaDoorZFnProgSame18
import Derived.Test.YtnegnanlbdncmaaDoorZFnProgSame17
import Derived.Test.YtnegnanlbdncmaaDoorZFnProgSame10
namespace Go.Proofs.YtnegnanlbdncmaaDoor.P
open Go.RowKit Go.Proofs.YtnegnanlbdncmaaDoorW.PrintWords Go.Proofs.YtnegnanlbdncmaaDoorW.PrintLast Go.Proofs.YtnegnanlbdncmaaDoorW.PrintMore
set_option linter.unusedVariables false
set_option linter.unusedSimpArgs false
theorem wd_head : ∀ i : Fin 15, (wd i).head? ≠ some 45 := by decide
theorem wd_wd (i : Fin 15) : Wd (wd i) := by
  refine ⟨(wd_ok i).1, fun b hb => ?_⟩
  have := List.all_eq_true.1 (wd_ok i).2.1 b hb
  simpa using this
theorem head_wd {x : S49} {i : Fin 15} (h : Knd x i) : ∀ w ∈ wHeads x.f0 x.f1 x.f2 x.f3, Wd w := by
  intro w hw
  unfold wHeads at hw
  have opt : ∀ (c : Prop) [Decidable c] (n : Int), w ∈ (if c then [Lib.itoa n] else []) → Wd w := fun c _ n hm => by
    split at hm
    · rw [List.mem_singleton] at hm
      rw [hm]
      exact itoa_wd n
    · cases hm
  rcases List.mem_append.1 hw with hw | hw
  · rcases List.mem_append.1 hw with hw | hw
    · rcases List.mem_append.1 hw with hw | hw
      · rw [List.mem_singleton, h.hw] at hw
        rw [hw]
        exact wd_wd i
      · exact opt _ _ hw
    · exact opt _ _ hw
  · exact opt _ _ hw
theorem toks_wd : ∀ (d : Nat) (l : List S49), okD d l → ∀ w ∈ toks d l, Wd w
  | 0, _, _, w, hw => by cases hw
  | d + 1, l, h, w, hw => by
    have b1 : Wd [91] := ⟨by simp, by simp⟩
    have b2 : Wd [93] := ⟨by simp, by simp⟩
    obtain ⟨x, hx, hw⟩ := List.mem_flatMap.1 (show w ∈ l.flatMap (stk (toks d)) from hw)
    have hk := okD_kids h hx
    obtain ⟨m, hm⟩ := h x hx
    obtain ⟨i, X⟩ := knd_of hm
    have opt : ∀ (c : Bool) (t : List S49), okD d t → w ∈ (if c = true then [91] :: (toks d t ++ [[93]]) else []) → Wd w := fun c t ht hm => by
      split at hm
      · rcases List.mem_cons.1 hm with hm | hm
        · rw [hm]
          exact b1
        · rcases List.mem_append.1 hm with hm | hm
          · exact toks_wd d t ht w hm
          · rw [List.mem_singleton] at hm
            rw [hm]
            exact b2
      · cases hm
    unfold stk at hw
    rcases List.mem_append.1 hw with hw | hw
    · exact head_wd X w hw
    · rcases List.mem_append.1 hw with hw | hw
      · exact opt _ _ hk.1 hw
      · exact opt _ _ hk.2 hw
theorem txT_inj {d : Nat} {a b : List S49} (ha : okD d a) (hb : okD d b) (h : txT d a = txT d b) : a = b := by
  rw [txT_toks d a ha, txT_toks d b hb] at h
  have e := join_words _ _ (toks_wd d a ha) (toks_wd d b hb) h
  exact (read_uniq d a b [] [] ha hb (.inl rfl) (.inl rfl) (by rw [e])).1
theorem txT_dash {d : Nat} {a : List S49} (ha : okD d a) (hn : a ≠ []) : txT d a ≠ [45] := by
  intro h
  rw [txT_toks d a ha] at h
  cases d with
  | zero => cases h
  | succ d =>
    obtain ⟨x, t, rfl⟩ := List.exists_cons_of_ne_nil hn
    obtain ⟨m, hm⟩ := ha x (List.mem_cons_self ..)
    obtain ⟨i, X⟩ := knd_of hm
    obtain ⟨w, hw⟩ := heads_cons x.f0 x.f1 x.f2 x.f3
    rw [toks_cons] at h
    unfold stk at h
    rw [hw, X.hw, List.cons_append, List.cons_append, Lib.join_cons] at h
    obtain ⟨c, r, hc⟩ := List.exists_cons_of_ne_nil (wd_ok i).1
    rw [hc] at h
    have e := (List.cons.inj h).1
    exact wd_head i (by rw [hc, e]; rfl)
theorem txtV_inj {a b : List S49} (ka : okLst a = true) (kb : okLst b = true) (h : txtV a = txtV b) : a = b := by
  unfold txtV at h
  rw [if_pos ka, if_pos kb] at h
  by_cases ca : a = []
  · by_cases cb : b = []
    · rw [ca, cb]
    · rw [if_pos (by rw [ca]; rfl), if_neg (fun z => cb (List.eq_nil_of_length_eq_zero z))] at h
      exact absurd h.symm (txT_dash (okD_ok kb) cb)
  · by_cases cb : b = []
    · rw [if_neg (fun z => ca (List.eq_nil_of_length_eq_zero z)), if_pos (by rw [cb]; rfl)] at h
      exact absurd h (txT_dash (okD_ok ka) ca)
    · rw [if_neg (fun z => ca (List.eq_nil_of_length_eq_zero z)), if_neg (fun z => cb (List.eq_nil_of_length_eq_zero z))] at h
      exact txT_inj (okD_ok ka) (okD_ok kb) h
theorem zipB_refl {α : Type} {p : α → α → Bool} : ∀ a : List α, (∀ x ∈ a, p x x = true) → zipB p a a = true
  | [], _ => rfl
  | x :: t, h => by
    unfold zipB
    rw [h x (List.mem_cons_self ..), zipB_refl t fun y hy => h y (List.mem_cons_of_mem _ hy)]
    rfl
theorem eqLB_refl : ∀ (d : Nat) (a : List S49), eqLB d a a = true
  | 0, _ => rfl
  | d + 1, a => zipB_refl a fun x _ => by
    rw [eqLB_refl d x.f4, eqLB_refl d x.f5]
    unfold heads
    simp
theorem zipB_eq {α : Type} {p : α → α → Bool} : ∀ a b : List α, (∀ x ∈ a, ∀ y ∈ b, p x y = true → x = y) → zipB p a b = true → a = b
  | [], [], _, _ => rfl
  | [], _ :: _, _, h => by cases h
  | _ :: _, [], _, h => by cases h
  | x :: t, y :: u, hp, h => by
    unfold zipB at h
    rw [Bool.and_eq_true] at h
    rw [hp x (List.mem_cons_self ..) y (List.mem_cons_self ..) h.1, zipB_eq t u (fun v hv w hw => hp v (List.mem_cons_of_mem _ hv) w (List.mem_cons_of_mem _ hw)) h.2]
theorem eqLB_eq : ∀ (d : Nat) (a b : List S49), dep d a → dep d b → eqLB d a b = true → a = b
  | 0, a, b, ha, hb, _ => by
    obtain rfl : a = [] := ha
    obtain rfl : b = [] := hb
    rfl
  | d + 1, a, b, ha, hb, h => zipB_eq a b (fun x hx y hy hp => by
    rw [Bool.and_eq_true, Bool.and_eq_true] at hp
    obtain ⟨h0, h4, h5⟩ := hp
    unfold heads at h0
    simp only [Bool.and_eq_true, decide_eq_true_eq] at h0
    exact s_ext h0.1 h0.2.1 h0.2.2.1 h0.2.2.2 (eqLB_eq d _ _ (ha x hx).1 (hb y hy).1 h4) (eqLB_eq d _ _ (ha x hx).2 (hb y hy).2 h5)) h
theorem sameV_iff (a b : List S49) : sameV a b = true ↔ okLst a = true ∧ okLst b = true ∧ a = b := by
  unfold sameV
  rw [Bool.and_eq_true, Bool.and_eq_true]
  constructor
  · rintro ⟨h1, h2, h3⟩
    exact ⟨h1, h2, eqLB_eq 3 a b (dep3 (okLst_list h1)) (dep3 (okLst_list h2)) h3⟩
  · rintro ⟨h1, h2, rfl⟩
    exact ⟨h1, h2, eqLB_refl 3 a⟩
theorem sameV_symm (a b : List S49) : sameV a b = sameV b a := by
  rw [Bool.eq_iff_iff, sameV_iff, sameV_iff]
  exact ⟨fun h => ⟨h.2.1, h.1, h.2.2.symm⟩, fun h => ⟨h.2.1, h.1, h.2.2.symm⟩⟩
end Go.Proofs.YtnegnanlbdncmaaDoor.P

namespace Go.Proofs.YtnegnanlbdncmaaDoor.Pure
open Go.RowKit Go.Proofs.YtnegnanlbdncmaaDoor.P Go.Proofs.YtnegnanlbdncmaaDoorW.PrintWords Go.Proofs.YtnegnanlbdncmaaDoorW.PrintLast
open Go.Proofs.YtnegnanlbdncmaaDoor.P Go.Proofs.YtnegnanlbdncmaaDoorW.PrintMore
theorem drawSame {l : List Int} (h : ∀ x ∈ l, (Lit.int .u8 x).wf = true) : ∃ a b : List S49, SmL a ∧ SmL b ∧ Ev (fun k => spec_DrawStmtsSame.f k l) (a, b) := by
  obtain ⟨ys, ho, hb⟩ := open_eq l
  have hb := hb h
  obtain ⟨l0, p0, s0, s1, s2, q1, q2, e0⟩ := some_ev hb 0 (by omega) (by omega)
  obtain ⟨l1, p1, t1, n1, q3, q4, e1⟩ := bent_ev hb l0 ⟨by omega, s1⟩ p0 (by omega) (by omega)
  obtain ⟨l2, p2, t2, n2, q5, q6, e2⟩ := bent_ev hb l1 t1 p1 (by omega) (by omega)
  obtain ⟨l3, p3, t3, n3, q7, q8, e3⟩ := bent_ev hb l2 t2 p2 (by omega) (by omega)
  obtain ⟨l4, p4, t4, n4, q9, q10, e4⟩ := bent_ev hb l3 t3 p3 (by omega) (by omega)
  refine ⟨l0, l4, ⟨by omega, s1⟩, t4, ?_⟩
  unfold spec_DrawStmtsSame.f
  exact Evs.bind0 ho (Evs.bind e0 (Evs.bind e1 (Evs.bind e2 (Evs.bind e3 (Evs.bind e4 (Evs.some_ _))))))
theorem drawProg {l : List Int} (h : ∀ x ∈ l, (Lit.int .u8 x).wf = true) : ∃ q : List (List S49), q.length ≤ 9 ∧ (∀ t ∈ q, SmL t) ∧ Ev (fun k => spec_DrawProgOk.f k l) q := by
  obtain ⟨ys, ho, hb⟩ := open_eq l
  obtain ⟨q, p', a1, a2, _, _, a5⟩ := progs_ev (hb h) 0 (by omega) (by omega)
  refine ⟨q, a1, a2, ?_⟩
  unfold spec_DrawProgOk.f
  exact Evs.bind0 ho (Evs.bind a5 (Evs.some_ _))
theorem FnProgSame : laws_FnProgSame.Pure := by
  intro l _ _ hw
  refine Ev.rounds (g := fun k => laws_FnProgSame.f k l) ?_
  unfold laws_FnProgSame.f
  by_cases c0 : (l.length : Int) > 1048576
  · exact Evs.ite_pos c0 (Evs.some_ _)
  obtain ⟨a, b, ha, hb, hd⟩ := drawSame hw
  obtain ⟨p, hp1, hp2, he⟩ := drawProg hw
  have hsp : ∀ u ∈ p, SL 3 u := fun u hu => smL_sl (hp2 u hu) 3
  have x1 := implSame a b
  have x2 := specSame (smL_sl ha 3) (smL_sl hb 3)
  have x3 := implSame b a
  rw [← sameV_symm a b] at x3
  have pi := implProg p
  have ps := specProg (by omega) hsp
  have oa := implOk a
  have ob := implOk b
  have hla := ha.1
  have hlb := hb.1
  have ca := cnt3 (smL_sl ha 2) (by omega)
  have cb := cnt3 (smL_sl hb 2) (by omega)
  have le14 : ∀ t : List S49, cntL 3 t ≤ 5000000000000000 → okLst t = true → cntL 3 t ≤ 1000000 := fun t hc h => by
    unfold okLst at h
    rw [Bool.and_eq_true, decide_eq_true_eq, wrap_cnt hc] at h
    omega
  have ta := implText (l := a) (le14 a ca)
  have tb := implText (l := b) (le14 b cb)
  refine Evs.ite_neg c0 (Evs.bind hd (Evs.bind he (Evs.bind x1 (Evs.bind x2 (Evs.ite_neg (by simp) (Evs.bind x3 (Evs.ite_neg (by simp) (Evs.bind pi (Evs.bind ps ?_)))))))))
  rw [show (progB p != progB p) = false by simp]
  have fin : Ev (fun k => (impl_StmtsOk.f k a).bind fun t430 => (if t430 = true then ((impl_StmtsOk.f k b).bind fun t431 => (if t431 = true then ((impl_StmtsText.f k a).bind fun t432 => ((impl_StmtsText.f k b).bind fun t433 => (some (sameV a b == (t432.toList == t433.toList))))) else (some (sameV a b == false)))) else (some (sameV a b == false)))) true := by
    refine Evs.bind oa ?_
    cases ka : okLst a with
    | false =>
      refine Evs.ite_neg (by simp) ?_
      have e : sameV a b = false := by unfold sameV; rw [ka]; rfl
      rw [e]
      exact Evs.some_ _
    | true =>
      refine Evs.ite_pos rfl (Evs.bind ob ?_)
      cases kb : okLst b with
      | false =>
        refine Evs.ite_neg (by simp) ?_
        have e : sameV a b = false := by unfold sameV; rw [ka, kb]; rfl
        rw [e]
        exact Evs.some_ _
      | true =>
        refine Evs.ite_pos rfl (Evs.bind ta (Evs.bind tb ?_))
        have e : (sameV a b == ((⟨(txtV a).toArray⟩ : ByteArray).toList == (⟨(txtV b).toArray⟩ : ByteArray).toList)) = true := by
          rw [Lib.toList_data, Lib.toList_data, beq_iff_eq, Bool.eq_iff_iff, sameV_iff, beq_iff_eq]
          show _ ↔ (txtV a).toArray.toList = (txtV b).toArray.toList
          rw [List.toList_toArray, List.toList_toArray]
          exact ⟨fun h => by rw [h.2.2], fun h => ⟨ka, kb, txtV_inj ka kb h⟩⟩
        rw [e]
        exact Evs.some_ _
  have key : ∀ (e i : Nat) (r : Bool), i + e = p.length → (r && (p.drop i).all okLst) = progB p → Ev (fun k => laws_FnProgSame.l0 k a b p (sameV a b) r (i : Int)) true := by
    intro e
    induction e with
    | zero =>
      intro i r hi hr
      rw [List.drop_of_length_le (by omega), List.all_nil, Bool.and_true] at hr
      refine Evs.succ (fun k => by simp only [laws_FnProgSame.l0]; rfl) (Evs.ite_neg (by omega) (Evs.bind pi ?_))
      rw [hr]
      exact Evs.ite_neg (by simp) fin
    | succ e ih =>
      intro i r hi hr
      have hlt : i < p.length := by omega
      rw [dropl p hlt, List.all_cons] at hr
      have ew : wrap64 ((i : Int) + 1) = ((i + 1 : Nat) : Int) := wrap_succ (by omega)
      refine Evs.succ (fun k => by simp only [laws_FnProgSame.l0]; rfl) (Evs.ite_pos (by omega) ?_)
      cases r with
      | false =>
        refine Evs.ite_neg (by simp) ?_
        rw [ew]
        exact ih (i + 1) false (by omega) (by rw [← hr]; rfl)
      | true =>
        refine Evs.ite_pos rfl (Evs.ite_pos (by omega) (Evs.bind (implOk _) ?_))
        rw [ew]
        exact ih (i + 1) _ (by omega) (by rw [← hr, Bool.true_and]; rfl)
  have start : ∀ r : Bool, (r && p.all okLst) = progB p → Ev (fun k => laws_FnProgSame.j1 k a b p (sameV a b) r) true := fun r hr =>
    Evs.succ (fun k => by simp only [laws_FnProgSame.j1]; rfl) (key p.length 0 r (by omega) hr)
  refine Evs.succ (fun k => by simp only [laws_FnProgSame.j0]; rfl) (Evs.ite_neg (by simp) ?_)
  by_cases c1 : (p.length : Int) ≥ 1
  · refine Evs.ite_pos c1 (start _ ?_)
    unfold progB
    rw [decide_eq_true (show 1 ≤ (p.length : Int) from c1), Bool.true_and, Bool.and_comm]
  · refine Evs.ite_neg c1 (start _ ?_)
    unfold progB
    rw [decide_eq_false (show ¬ 1 ≤ (p.length : Int) from c1), Bool.false_and, Bool.false_and, Bool.and_false]
end Go.Proofs.YtnegnanlbdncmaaDoor.Pure
