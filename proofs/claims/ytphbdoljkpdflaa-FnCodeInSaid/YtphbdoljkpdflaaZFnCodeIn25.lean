/- Parts of the proof of FnCodeIn: plain Lean functions of Go functions, and that the calls come to what they say; no condition beyond those that each theorem names. -/
import Derived.Test.YtphbdoljkpdflaaZFnCodeIn24
import Derived.Test.YtphbdoljkpdflaaZFnCodeIn23
import Derived.Test.YtphbdoljkpdflaaZFnCodeIn18
namespace Go.Proofs.Ytphbdoljkpdflaa.P
open Go.RowKit Go.Proofs.YtphbdoljkpdflaaW.PrintWords Go.Proofs.YtphbdoljkpdflaaW.PrintMore
set_option linter.unusedVariables false
set_option linter.unusedSimpArgs false
def AllI (c : List S42) : Prop:=1 ≤ c.length ∧ c.length ≤ 60 ∧ ∀ j,j < c.length → OkI c j
theorem rooms_both (c : List S42) (h : AllI c) : ∃ b : Bool,Ev (fun k=>impl_roomsOk.f k c) b ∧ (∃ rs,Ev (fun k=>spec_l4Rooms.f k c) (rs,b)) ∧ ((∀ j,j < c.length → FitI c 0 c.length j) → b = true):=by
  obtain ⟨h1,h2,hok⟩:=h
  have hlen : (List.replicate c.length (-2 : Int)).length = c.length:=by simp
  have hI : BInv c ((List.replicate c.length (-2 : Int)).set 0 (-1)) (([0] : List Int).drop 0):=by
    refine ⟨by simp,fun v hv=>?_,fun p hp=>?_⟩
    · rcases List.mem_or_eq_of_mem_set hv with hv | rfl
      · have:=(List.mem_replicate.1 hv).2
        omega
      · omega
    · obtain rfl : p = 0:=by simpa using hp
      refine ⟨by omega,by omega,?_⟩
      have:=rd_set_same (xs:=List.replicate c.length (-2 : Int)) (i:=0) (by simp;omega) (-1)
      rw [show ((0 : Nat) : Int) = 0 from rfl] at this
      rw [this]
      omega
  have hcnt : ((List.replicate c.length (-2 : Int)).set 0 (-1)).count (-2) ≤ 60:=by
    have:=List.count_le_length (a:=(-2 : Int)) (l:=(List.replicate c.length (-2 : Int)).set 0 (-1))
    simp at this
    omega
  obtain ⟨b,e1,⟨rs,e2⟩,e3⟩:=outer_loop c h2 hok 1000 0 _ [0] (by simp) hI (by simp;omega) (by simp;omega)
  refine ⟨b,?_,⟨rs,?_⟩,fun hf=>e3 hf ?_⟩
  · unfold impl_roomsOk.f
    have er : slices_Repeat_int_int.f ([-2] : List Int) (c.length : Int) = some (List.replicate c.length (-2)):=by
      unfold slices_Repeat_int_int.f
      rw [if_pos ⟨rfl,by omega,by omega⟩,Int.toNat_natCast]
      rfl
    refine Evs.bind0 er (Evs.ite_pos (by rw [hlen];omega) ?_)
    exact e1
  · unfold spec_l4Rooms.f
    have key : ∀ (e i : Nat),i + e = c.length → Ev (fun k=>spec_l4Rooms.l0 k c (List.replicate i (-1)) (i : Int)) (rs,b):=by
      intro e
      induction e with
      | zero =>
        intro i hi
        obtain rfl : i = c.length:=by omega
        refine Evs.succ (fun k=>by simp only [spec_l4Rooms.l0];rfl) (Evs.ite_neg (by omega) (Evs.ite_pos (by simp;omega) ?_))
        have em : ((List.replicate c.length (-2 : Int)).set 0 (-1)).map (· + 1) = (List.replicate c.length (-1 : Int)).set (0 : Int).toNat 0:=by
          rw [List.map_set,List.map_replicate]
          rfl
        rw [em] at e2
        exact e2
      | succ e ih =>
        intro i hi
        refine Evs.succ (fun k=>by simp only [spec_l4Rooms.l0];rfl) (Evs.ite_pos (by omega) (Evs.ite_pos (by simp;omega) ?_))
        rw [wrap_succ (by omega),← List.replicate_succ']
        exact ih (i + 1) (by omega)
    exact key c.length 0 (by omega)
  · intro j hj
    by_cases hz : j = 0
    · subst hz
      right
      have:=rd_set_same (xs:=List.replicate c.length (-2 : Int)) (i:=0) (by simp;omega) (-1)
      rw [this]
      rfl
    · left
      rw [rd_set_ne (by omega),rd_get (by simpa using hj)]
      simp
theorem specIns_ev (a0 a1 a2 a3 : Int) (n : Nat) : Ev (fun k=>spec_l4Ins.f k a0 a1 a2 a3 (n : Int)) (insB a0 a1 a2 a3 (n : Int)):=by
  have main : ∀ x5 : Bool,x5 = inR a1 3 → Ev (fun k=>spec_l4Ins.j0 k (n : Int) x5 a0 a1 a2 a3) (insB a0 a1 a2 a3 (n : Int)):=by
    intro x5 hx
    refine Evs.succ (fun k=>by simp only [spec_l4Ins.j0];rfl) ?_
    by_cases h1 : a0 = 1
    · have hv : leafOk a0 a1 a2 a3 (-1) = insB a0 a1 a2 a3 (n : Int):=by rw [h1];rw [Bool.eq_iff_iff];simp [leafOk,insB,insN,gmOk,gmA,gmB,gmX,fit,inR,numR];omega
      rw [← hv]
      exact Evs.ite_pos h1 (Evs.succ (fun k=>by simp only [spec_l4Ins.j1];rfl) (Evs.ite_pos (by simp [h1]) (Evs.bind (leaf_ev a0 a1 a2 a3 (-1) [] []) (Evs.some_ _))))
    refine Evs.ite_neg h1 ?_
    by_cases h2 : a0 = 2
    · have hv : leafOk a0 a1 a2 a3 (-1) = insB a0 a1 a2 a3 (n : Int):=by rw [h2];rw [Bool.eq_iff_iff];simp [leafOk,insB,insN,gmOk,gmA,gmB,gmX,fit,inR,numR];omega
      rw [← hv]
      exact Evs.ite_pos h2 (Evs.succ (fun k=>by simp only [spec_l4Ins.j1];rfl) (Evs.ite_pos (by simp [h2]) (Evs.bind (leaf_ev a0 a1 a2 a3 (-1) [] []) (Evs.some_ _))))
    refine Evs.ite_neg h2 ?_
    by_cases h3 : a0 = 3
    · have hv : leafOk a0 a1 a2 a3 (-1) = insB a0 a1 a2 a3 (n : Int):=by rw [h3];rw [Bool.eq_iff_iff];simp [leafOk,insB,insN,gmOk,gmA,gmB,gmX,fit,inR,numR];omega
      rw [← hv]
      exact Evs.ite_pos h3 (Evs.succ (fun k=>by simp only [spec_l4Ins.j1];rfl) (Evs.ite_pos (by simp [h3]) (Evs.bind (leaf_ev a0 a1 a2 a3 (-1) [] []) (Evs.some_ _))))
    refine Evs.ite_neg h3 ?_
    by_cases h4 : a0 = 4
    · have hv : leafOk a0 a1 a2 a3 (-1) = insB a0 a1 a2 a3 (n : Int):=by rw [h4];rw [Bool.eq_iff_iff];simp [leafOk,insB,insN,gmOk,gmA,gmB,gmX,fit,inR,numR];omega
      rw [← hv]
      exact Evs.ite_pos h4 (Evs.succ (fun k=>by simp only [spec_l4Ins.j1];rfl) (Evs.ite_pos (by simp [h4]) (Evs.bind (leaf_ev a0 a1 a2 a3 (-1) [] []) (Evs.some_ _))))
    refine Evs.ite_neg h4 ?_
    by_cases h5 : a0 = 5
    · have hv : leafOk a0 a1 a2 a3 (-1) = insB a0 a1 a2 a3 (n : Int):=by rw [h5];rw [Bool.eq_iff_iff];simp [leafOk,insB,insN,gmOk,gmA,gmB,gmX,fit,inR,numR];omega
      rw [← hv]
      exact (Evs.succ (fun k=>by simp only [spec_l4Ins.j1];rfl) (Evs.ite_pos (by simp [h5]) (Evs.bind (leaf_ev a0 a1 a2 a3 (-1) [] []) (Evs.some_ _))))
    refine Evs.succ (fun k=>by simp only [spec_l4Ins.j1];rfl) (Evs.ite_neg (by simpa using h5) ?_)
    by_cases h6 : a0 = 6
    · have hv : (x5 && (decide (a2 = 0) && (decide (a3 ≥ 0) && decide (a3 < (n : Int))))) = insB a0 a1 a2 a3 (n : Int):=by rw [hx,h6];rw [Bool.eq_iff_iff];simp [leafOk,insB,insN,gmOk,gmA,gmB,gmX,fit,inR,numR];omega
      rw [← hv]
      exact Evs.ite_pos h6 (ev_band fun _=>ev_and fun _=>ev_and fun _=>Evs.some_ _)
    refine Evs.ite_neg h6 ?_
    by_cases h7 : a0 = 7
    · have hv : (decide (a1 = 0) && (decide (a2 = 0) && (decide (a3 ≥ 0) && decide (a3 < (n : Int))))) = insB a0 a1 a2 a3 (n : Int):=by rw [h7];rw [Bool.eq_iff_iff];simp [leafOk,insB,insN,gmOk,gmA,gmB,gmX,fit,inR,numR];omega
      rw [← hv]
      exact Evs.ite_pos h7 (ev_and fun _=>ev_and fun _=>ev_and fun _=>Evs.some_ _)
    refine Evs.ite_neg h7 ?_
    by_cases h8 : a0 = 8
    · have hv : (decide (a1 ≥ 0) && (decide (a1 < 2) && (decide (a2 = 0) && (a3 == 0)))) = insB a0 a1 a2 a3 (n : Int):=by rw [h8];rw [Bool.eq_iff_iff];simp [leafOk,insB,insN,gmOk,gmA,gmB,gmX,fit,inR,numR];omega
      rw [← hv]
      exact Evs.ite_pos h8 (Evs.succ (fun k=>by simp only [spec_l4Ins.j2];rfl) (Evs.ite_pos (by simp [h8]) (ev_and fun _=>ev_and fun _=>ev_and fun _=>Evs.some_ _)))
    refine Evs.ite_neg h8 ?_
    by_cases h9 : a0 = 9
    · have hv : (decide (a1 ≥ 0) && (decide (a1 < 2) && (decide (a2 = 0) && (a3 == 0)))) = insB a0 a1 a2 a3 (n : Int):=by rw [h9];rw [Bool.eq_iff_iff];simp [leafOk,insB,insN,gmOk,gmA,gmB,gmX,fit,inR,numR];omega
      rw [← hv]
      exact (Evs.succ (fun k=>by simp only [spec_l4Ins.j2];rfl) (Evs.ite_pos (by simp [h9]) (ev_and fun _=>ev_and fun _=>ev_and fun _=>Evs.some_ _)))
    refine Evs.succ (fun k=>by simp only [spec_l4Ins.j2];rfl) (Evs.ite_neg (by simpa using h9) ?_)
    by_cases h10 : a0 = 10
    · have hv : (decide (a1 ≥ 0) && (decide (a1 < 2) && (decide (a2 = 0) && (a3 == 0)))) = insB a0 a1 a2 a3 (n : Int):=by rw [h10];rw [Bool.eq_iff_iff];simp [leafOk,insB,insN,gmOk,gmA,gmB,gmX,fit,inR,numR];omega
      rw [← hv]
      exact Evs.ite_pos h10 (Evs.succ (fun k=>by simp only [spec_l4Ins.j3];rfl) (Evs.ite_pos (by simp [h10]) (ev_and fun _=>ev_and fun _=>ev_and fun _=>Evs.some_ _)))
    refine Evs.ite_neg h10 ?_
    by_cases h11 : a0 = 11
    · have hv : (decide (a1 ≥ 0) && (decide (a1 < 2) && (decide (a2 = 0) && (a3 == 0)))) = insB a0 a1 a2 a3 (n : Int):=by rw [h11];rw [Bool.eq_iff_iff];simp [leafOk,insB,insN,gmOk,gmA,gmB,gmX,fit,inR,numR];omega
      rw [← hv]
      exact (Evs.succ (fun k=>by simp only [spec_l4Ins.j3];rfl) (Evs.ite_pos (by simp [h11]) (ev_and fun _=>ev_and fun _=>ev_and fun _=>Evs.some_ _)))
    refine Evs.succ (fun k=>by simp only [spec_l4Ins.j3];rfl) (Evs.ite_neg (by simpa using h11) ?_)
    by_cases h12 : a0 = 12
    · have hv : (decide (a1 = 0) && (decide (a2 = 0) && (a3 == 0))) = insB a0 a1 a2 a3 (n : Int):=by rw [h12];rw [Bool.eq_iff_iff];simp [leafOk,insB,insN,gmOk,gmA,gmB,gmX,fit,inR,numR];omega
      rw [← hv]
      exact Evs.ite_pos h12 (ev_and fun _=>ev_and fun _=>Evs.some_ _)
    refine Evs.ite_neg h12 ?_
    by_cases h13 : a0 = 13
    · have hv : (decide (a1 = 0) && (decide (a2 = 0) && (a3 == 0))) = insB a0 a1 a2 a3 (n : Int):=by rw [h13];rw [Bool.eq_iff_iff];simp [leafOk,insB,insN,gmOk,gmA,gmB,gmX,fit,inR,numR];omega
      rw [← hv]
      exact Evs.ite_pos h13 (ev_and fun _=>ev_and fun _=>Evs.some_ _)
    refine Evs.ite_neg h13 ?_
    have hv : insB a0 a1 a2 a3 (n : Int) = false:=by
      have : gmOk a0 = false:=by unfold gmOk;rw [decide_eq_false (by omega)]
      unfold insB;rw [this];rfl
    rw [hv]
    exact Evs.some_ _
  unfold spec_l4Ins.f
  by_cases h : a1 ≥ 0
  · exact Evs.ite_pos h (main _ (by unfold inR;rw [decide_eq_true (show 0 ≤ a1 from h),Bool.true_and]))
  · exact Evs.ite_neg h (main _ (by unfold inR;rw [decide_eq_false (show ¬ 0 ≤ a1 from h),Bool.false_and]))
def okJ (c : List S42) (j : Nat) : Bool:=insB (rd_T42 c j).f0 (rd_T42 c j).f1 (rd_T42 c j).f2 (rd_T42 c j).f3 (c.length : Int) && (decide ((rd_T42 c j).f0 = 13) == decide (j + 1 = c.length))
theorem okJ_iff (c : List S42) (j : Nat) : okJ c j = true ↔ OkI c j:=by
  unfold okJ OkI
  rw [Bool.and_eq_true,beq_iff_eq,decide_eq_decide]
theorem impl_lin (c : List S42) (hc : c.length ≤ 60) (b : Bool) (hb : (∀ j,j < c.length → okJ c j = true) → Ev (fun k=>impl_roomsOk.f k c) b) :
    ∀ (e i : Nat),i + e = c.length → (∀ j,j < i → okJ c j = true) → Ev (fun k=>impl_CodeOk.l0 k c c (c.length : Int) (i : Int)) (((List.range' i e).all (okJ c)) && b):=by
  intro e
  induction e with
  | zero =>
    intro i hi hp
    obtain rfl : i = c.length:=by omega
    refine Evs.succ (fun k=>by simp only [impl_CodeOk.l0];rfl) (Evs.ite_neg (by omega) ?_)
    exact Evs.bind (hb hp) (Evs.some_ _)
  | succ e ih =>
    intro i hi hp
    have ew : wrap64 ((c.length : Int) - 1) = ((c.length - 1 : Nat) : Int):=by rw [wrap_id (by omega) (by omega)];omega
    have hj : ((((rd_T42 c (i : Int)).f0) == 13) != ((i : Int) == wrap64 ((c.length : Int) - 1))) = !(decide ((rd_T42 c (i : Int)).f0 = 13) == decide (i + 1 = c.length)):=by
      rw [ew]
      have : ((i : Int) == ((c.length - 1 : Nat) : Int)) = decide (i + 1 = c.length):=by rw [Bool.eq_iff_iff];simp;omega
      rw [this]
      rfl
    clear ew
    refine Evs.succ (fun k=>by simp only [impl_CodeOk.l0];rfl) (Evs.ite_pos (by omega) (Evs.ite_pos (by omega) (Evs.ite_pos (by omega) (Evs.bind0 rfl ?_))))
    rw [List.range'_succ,List.all_cons]
    cases h1 : insB (rd_T42 c (i : Int)).f0 (rd_T42 c (i : Int)).f1 (rd_T42 c (i : Int)).f2 (rd_T42 c (i : Int)).f3 (c.length : Int) with
    | false =>
      have : okJ c i = false:=by unfold okJ;rw [h1];rfl
      rw [this]
      exact Evs.ite_neg (by simp) (Evs.some_ _)
    | true =>
      refine Evs.ite_pos rfl ?_
      rw [hj]
      cases h2 : (decide ((rd_T42 c (i : Int)).f0 = 13) == decide (i + 1 = c.length)) with
      | false =>
        have : okJ c i = false:=by unfold okJ;rw [h1,h2];rfl
        rw [this]
        exact Evs.ite_pos rfl (Evs.some_ _)
      | true =>
        have : okJ c i = true:=by unfold okJ;rw [h1,h2];rfl
        rw [this,Bool.true_and]
        refine Evs.ite_neg (by simp) ?_
        rw [wrap_succ (by omega)]
        exact ih (i + 1) (by omega) fun j hj=>by
          by_cases hji : j = i
          · rw [hji];exact this
          · exact hp j (by omega)
theorem spec_lin (c : List S42) (hc : c.length ≤ 60) (hlast : (rd_T42 c ((c.length - 1 : Nat) : Int)).f0 = 13) (b : Bool) (hb : (∀ j,j < c.length → okJ c j = true) → ∃ rs,Ev (fun k=>spec_l4Rooms.f k c) (rs,b)) :
    ∀ (e i : Nat),i + e = c.length → (∀ j,j < i → okJ c j = true) → Ev (fun k=>spec_CodeOk.l0 k c (c.length : Int) (i : Int)) (((List.range' i e).all (okJ c)) && b):=by
  intro e
  induction e with
  | zero =>
    intro i hi hp
    obtain rfl : i = c.length:=by omega
    obtain ⟨rs,hr⟩:=hb hp
    refine Evs.succ (fun k=>by simp only [spec_CodeOk.l0];rfl) (Evs.ite_neg (by omega) ?_)
    exact Evs.bind hr (Evs.some_ _)
  | succ e ih =>
    intro i hi hp
    refine Evs.succ (fun k=>by simp only [spec_CodeOk.l0];rfl) (Evs.ite_pos (by omega) (Evs.ite_pos (by omega) (Evs.ite_pos (by omega) (Evs.bind (specIns_ev _ _ _ _ c.length) ?_))))
    rw [List.range'_succ,List.all_cons]
    have ew : wrap64 ((c.length : Int) - 1) = ((c.length - 1 : Nat) : Int):=by rw [wrap_id (by omega) (by omega)];omega
    rw [ew]
    clear ew
    cases h1 : insB (rd_T42 c (i : Int)).f0 (rd_T42 c (i : Int)).f1 (rd_T42 c (i : Int)).f2 (rd_T42 c (i : Int)).f3 (c.length : Int) with
    | false =>
      have : okJ c i = false:=by unfold okJ;rw [h1];rfl
      rw [this]
      exact Evs.ite_neg (by simp) (Evs.some_ _)
    | true =>
      refine Evs.ite_pos rfl ?_
      have nx : okJ c i = true → Ev (fun k=>spec_CodeOk.l0 k c (c.length : Int) (wrap64 ((i : Int) + 1))) (((List.range' (i + 1) e).all (okJ c)) && b):=fun h=>by
        rw [wrap_succ (by omega)]
        exact ih (i + 1) (by omega) fun j hj=>by
          by_cases hji : j = i
          · rw [hji];exact h
          · exact hp j (by omega)
      by_cases h13 : (rd_T42 c (i : Int)).f0 = 13
      · refine Evs.ite_pos h13 ?_
        by_cases hl : i + 1 = c.length
        · have : okJ c i = true:=by unfold okJ;rw [h1,decide_eq_true h13,decide_eq_true hl];rfl
          rw [this,Bool.true_and]
          exact Evs.ite_neg (by omega) (nx this)
        · have : okJ c i = false:=by unfold okJ;rw [h1,decide_eq_true h13,decide_eq_false hl];rfl
          rw [this]
          exact Evs.ite_pos (by omega) (Evs.some_ _)
      · refine Evs.ite_neg h13 ?_
        have hl : ¬ i + 1 = c.length:=fun e=>h13 (by rw [show i = c.length - 1 by omega];exact hlast)
        have : okJ c i = true:=by unfold okJ;rw [h1,decide_eq_false h13,decide_eq_false hl];rfl
        rw [this,Bool.true_and]
        exact nx this
theorem code_both (c : List S42) : ∃ b : Bool,Ev (fun k=>impl_CodeOk.f k c) b ∧ Ev (fun k=>spec_CodeOk.f k c) b ∧ (b = true → AllI c) ∧ (AllI c → (∀ j,j < c.length → FitI c 0 c.length j) → b = true):=by
  have bad1 : Ev (fun k=>impl_CodeOk.j0 k c true) false:=Evs.succ (fun k=>by simp only [impl_CodeOk.j0];rfl) (Evs.ite_pos (by trivial) (Evs.some_ _))
  have bad2 : Ev (fun k=>spec_CodeOk.j0 k c (c.length : Int) true) false:=Evs.succ (fun k=>by simp only [spec_CodeOk.j0];rfl) (Evs.ite_pos (by trivial) (Evs.some_ _))
  unfold impl_CodeOk.f spec_CodeOk.f
  by_cases h1 : (c.length : Int) < 1
  · exact ⟨false,Evs.ite_pos h1 bad1,Evs.ite_pos h1 bad2,fun h=>(by cases h),fun h=>by have:=h.1;omega⟩
  by_cases h2 : (c.length : Int) > 60
  · refine ⟨false,Evs.ite_neg h1 ?_,Evs.ite_neg h1 (Evs.ite_pos h2 bad2),fun h=>(by cases h),fun h=>by have:=h.2.1;omega⟩
    rw [decide_eq_true h2]
    exact bad1
  have hc : c.length ≤ 60:=by omega
  have hn : 1 ≤ c.length:=by omega
  have ew : wrap64 ((c.length : Int) - 1) = ((c.length - 1 : Nat) : Int):=by rw [wrap_id (by omega) (by omega)];omega
  by_cases hall : ∀ j,j < c.length → okJ c j = true
  · have hA : AllI c:=⟨hn,hc,fun j hj=>(okJ_iff c j).1 (hall j hj)⟩
    obtain ⟨b,e1,⟨rs,e2⟩,e3⟩:=rooms_both c hA
    have hl13 : (rd_T42 c ((c.length - 1 : Nat) : Int)).f0 = 13:=(hA.2.2 (c.length - 1) (by omega)).2.2 (by omega)
    have hr : (List.range' 0 c.length).all (okJ c) = true:=by rw [← List.range_eq_range'];exact all_range_true hall
    have i1:=impl_lin c hc b (fun _=>e1) c.length 0 (by omega) (fun _ h=>by omega)
    have s1:=spec_lin c hc hl13 b (fun _=>⟨rs,e2⟩) c.length 0 (by omega) (fun _ h=>by omega)
    rw [hr,Bool.true_and] at i1 s1
    refine ⟨b,?_,?_,fun _=>hA,fun _ hf=>e3 hf⟩
    · refine Evs.ite_neg h1 ?_
      rw [decide_eq_false h2]
      exact Evs.succ (fun k=>by simp only [impl_CodeOk.j0];rfl) (Evs.ite_neg (by simp) i1)
    · refine Evs.ite_neg h1 (Evs.ite_neg h2 ?_)
      rw [ew,hl13]
      clear ew
      refine Evs.ite_pos (by omega) (Evs.ite_pos (by omega) ?_)
      exact Evs.succ (fun k=>by simp only [spec_CodeOk.j0];rfl) (Evs.ite_neg (by simp) s1)
  · have hr : (List.range' 0 c.length).all (okJ c) = false:=by
      rw [← List.range_eq_range',Bool.eq_false_iff]
      intro h
      rw [List.all_eq_true] at h
      exact hall fun j hj=>h j (List.mem_range.2 hj)
    have i1:=impl_lin c hc true (fun h=>absurd h hall) c.length 0 (by omega) (fun _ h=>by omega)
    rw [hr,Bool.false_and] at i1
    refine ⟨false,?_,?_,fun h=>(by cases h),fun h=>absurd (fun j hj=>(okJ_iff c j).2 (h.2.2 j hj)) hall⟩
    · refine Evs.ite_neg h1 ?_
      rw [decide_eq_false h2]
      exact Evs.succ (fun k=>by simp only [impl_CodeOk.j0];rfl) (Evs.ite_neg (by simp) i1)
    · refine Evs.ite_neg h1 (Evs.ite_neg h2 ?_)
      rw [ew]
      clear ew
      refine Evs.ite_pos (by omega) (Evs.ite_pos (by omega) ?_)
      by_cases hl13 : (rd_T42 c ((c.length - 1 : Nat) : Int)).f0 = 13
      · rw [hl13]
        have s1:=spec_lin c hc hl13 true (fun h=>absurd h hall) c.length 0 (by omega) (fun _ h=>by omega)
        rw [hr,Bool.false_and] at s1
        exact Evs.succ (fun k=>by simp only [spec_CodeOk.j0];rfl) (Evs.ite_neg (by simp) s1)
      · have : ((rd_T42 c ((c.length - 1 : Nat) : Int)).f0 != 13) = true:=by simpa using hl13
        rw [this]
        exact bad2
theorem insI_B {i : S42} {n : Nat} (h : InsI i n) : insB i.f0 i.f1 i.f2 i.f3 (n : Int) = true:=by
  unfold InsI LeafI at h
  rcases h with (h | h | h | h | h | h | h) | h | h | h | h
  case inl.inr.inr.inl=>rcases h with ⟨h0 | h0,h⟩ <;> simp [insB,insN,gmOk,gmA,gmB,gmX,fit,h0] <;> omega
  case inr.inr.inr.inl=>rcases h with ⟨h0 | h0,h⟩ <;> simp [insB,insN,gmOk,gmA,gmB,gmX,fit,h0] <;> omega
  all_goals simp [insB,insN,gmOk,gmA,gmB,gmX,fit,h.1]
  all_goals omega
theorem codF_all {l : List S46} (h : okLst l = true) (hc : cntL 3 l ≤ 5000000000000000) : AllI (codF l) ∧ ∀ j,j < (codF l).length → FitI (codF l) 0 (codF l).length j:=by
  have hb:=codF_blk (okLst_list h)
  have h14:=cnt14 h hc
  have hle:=codL_len_le 3 l 0
  have hlen:=codF_len l
  have hfit:=hb.fit rfl
  refine ⟨⟨by omega,by omega,fun j hj=>?_⟩,fun j hj=>?_⟩
  · by_cases hq : j = (codL 3 l 0).length
    · subst hq
      have hg:=rd_T_get (codF l) hj
      rw [codF_last] at hg
      have hg:=(Option.some.inj hg).symm
      unfold OkI
      rw [hg]
      refine ⟨by simp [insB,insN,gmOk,gmA,gmB,gmX,fit],by simp;omega⟩
    · obtain ⟨i,hi,hI,h13⟩:=hb.ins (n:=(codF l).length) (by omega) j (Nat.zero_le _) (by omega)
      have hg:=rd_T_get (codF l) hj
      rw [hi] at hg
      have hg:=(Option.some.inj hg).symm
      unfold OkI
      rw [hg]
      exact ⟨insI_B hI,fun e=>absurd e h13,fun e=>by omega⟩
  · by_cases hq : j = (codL 3 l 0).length
    · subst hq
      exact ⟨_,codF_last l,by simp [movI,hfit.1],fun t ht=>by simp [sucI] at ht⟩
    · exact (hfit.2 j (Nat.zero_le _) (by omega)).mono (Nat.zero_le _) (by omega)
theorem codF_ok {l : List S46} (h : okLst l = true) (hc : cntL 3 l ≤ 5000000000000000) : Ev (fun k=>impl_CodeOk.f k (codF l)) true:=by
  obtain ⟨b,e1,e2,_,e4⟩:=code_both (codF l)
  obtain ⟨a1,a2⟩:=codF_all h hc
  rwa [e4 a1 a2] at e1
end Go.Proofs.Ytphbdoljkpdflaa.P

namespace Go.Proofs.Ytphbdoljkpdflaa.Pure
open Go.RowKit Go.Proofs.Ytphbdoljkpdflaa.P Go.Proofs.YtphbdoljkpdflaaW.PrintWords Go.Proofs.YtphbdoljkpdflaaW.PrintLast
open Go.Proofs.Ytphbdoljkpdflaa.P Go.Proofs.YtphbdoljkpdflaaW.PrintMore
theorem cut_one (l : List S46) {i : Nat} (h : i < l.length) : (l.take (i + 1)).drop i = [rd_T46 l (i : Int)]:=by
  unfold rd_T46
  rw [Int.toNat_natCast,List.getD_eq_getElem?_getD,List.getElem?_eq_getElem h,List.take_succ_eq_append_getElem h,List.drop_append_of_le_length (by rw [List.length_take];omega),List.drop_of_length_le (by rw [List.length_take];omega)]
  rfl
theorem cnt_mem : ∀ (l : List S46) (x : S46),x ∈ l → cntL 3 [x] ≤ cntL 3 l
  | [],_,h=>by cases h
  | y :: t,x,h=>by
    have e : cntL 3 [x] = 1 + cntL 2 x.f4 + cntL 2 x.f5:=by rw [cntL_cons];simp [cntL]
    rw [e,cntL_cons]
    change 1 + cntL 2 x.f4 + cntL 2 x.f5 ≤ (1 + cntL 2 y.f4 + cntL 2 y.f5) + cntL 3 t
    rcases List.mem_cons.1 h with rfl | h
    · exact Nat.le_add_right _ _
    · have:=cnt_mem t x h
      rw [e] at this
      omega
theorem cnt_dep : ∀ (d : Nat) (l : List S46),dep d l → cntL (d + 1) l = cntL d l
  | 0,l,h=>by
    obtain rfl : l = []:=h
    simp [cntL]
  | d + 1,l,h=>by
    have h' : ∀ x ∈ l,dep d x.f4 ∧ dep d x.f5:=h
    show (l.map fun x=>1 + cntL (d + 1) x.f4 + cntL (d + 1) x.f5).sum = (l.map fun x=>1 + cntL d x.f4 + cntL d x.f5).sum
    congr 1
    refine List.map_congr_left fun x hx=>?_
    obtain ⟨h4,h5⟩:=h' x hx
    rw [cnt_dep d _ h4,cnt_dep d _ h5]
theorem FnCodeIn : laws_FnCodeIn.Pure:=by
  intro l _ _ hw
  refine Ev.rounds (g:=fun k=>laws_FnCodeIn.f k l) ?_
  unfold laws_FnCodeIn.f
  by_cases c0 : (l.length : Int) > 1048576
  · exact Evs.ite_pos c0 (Evs.some_ _)
  obtain ⟨ts,ht,hd⟩:=drawCode_ev hw
  have hc:=smL_cnt ht
  have hl:=codeV_le hc
  have htl:=ht.1
  refine Evs.ite_neg c0 (Evs.bind hd (Evs.bind (implCode_ev hc) (Evs.bind (specCode_ev (smL_sl ht 3) hc) (Evs.bind (implSame_refl _ (by omega)) (Evs.ite_pos rfl (Evs.bind (specOk (smL_sl ht 3)) ?_))))))
  cases hv : okLst ts with
  | false =>
    refine Evs.succ (fun k=>by simp only [laws_FnCodeIn.j0];rfl) (Evs.ite_pos (by rfl) ?_)
    exact Evs.bind (specCode_ev (smL_sl ht 3) hc) (Evs.bind (implSame_refl _ (by omega)) (Evs.some_ _))
  | true =>
    refine Evs.succ (fun k=>by simp only [laws_FnCodeIn.j0];rfl) (Evs.ite_neg (by simp) ?_)
    have hok:=okAll hv
    rw [List.all_eq_true] at hok
    have h14:=cnt14 hv hc
    have key : ∀ (e i : Nat),i + e = ts.length → Ev (fun k=>laws_FnCodeIn.l0 k ts (i : Int)) true:=by
      intro e
      induction e with
      | zero =>
        intro i hi
        exact Evs.succ (fun k=>by simp only [laws_FnCodeIn.l0];rfl) (Evs.ite_neg (by omega) (Evs.some_ _))
      | succ e ih =>
        intro i hi
        have hlt : i < ts.length:=by omega
        have nx:=ih (i + 1) (by omega)
        rw [← wrap_succ (by omega)] at nx
        have hmem:=rd_mem hlt
        refine Evs.succ (fun k=>by simp only [laws_FnCodeIn.l0];rfl) (Evs.ite_pos (by omega) (Evs.ite_pos (by omega) ?_))
        by_cases h8 : (rd_T46 ts (i : Int)).f0 = 8
        · refine Evs.ite_pos h8 ?_
          have ew:=wrap_succ (i:=i) (by omega)
          have hcut:=cut_one ts hlt
          have hcm:=cnt_mem ts _ hmem
          have hos:=hok _ hmem
          have hbody:=smL_sl ht 3
          have hx : okLst [rd_T46 ts (i : Int)] = true:=by
            unfold okLst okList
            rw [Bool.and_eq_true,decide_eq_true_eq,List.all_cons,List.all_nil,hos,wrap_cnt (by omega)]
            exact ⟨rfl,by omega⟩
          have hxc : cntL 3 [rd_T46 ts (i : Int)] ≤ 5000000000000000:=by omega
          have hxe:=implCode_ev hxc
          rw [codeV_ok hx] at hxe
          have hxo:=codF_ok hx hxc
          have hs4 : Sm (rd_T46 ts (i : Int)):=ht.2 _ hmem
          obtain ⟨s,hsg⟩ : ∃ s,rd_T46 ts (i : Int) = s:=⟨_,rfl⟩
          rw [hsg] at h8 hcut hcm hos hx hxc hxe hxo hs4 hmem
          have hform : codF [s] = ⟨8,s.f1,0,0⟩ :: (codL 2 s.f4 1 ++ [⟨9,s.f1,0,0⟩,⟨13,0,0,0⟩]):=by
            show seqC (oneC (codL 2)) [s] 0 ++ _ = _
            rw [seqC,seqC,oneC,if_neg (by omega),if_neg (by omega),if_pos h8]
            simp
          have h0 : rd_T42 (codF [s]) 0 = ⟨8,s.f1,0,0⟩:=by rw [hform];rfl
          have hln : (codF [s]).length = (codL 2 s.f4 1).length + 3:=by rw [hform];simp
          have hle:=codF_le hx hxc
          have h2 : rd_T42 (codF [s]) (((codL 2 s.f4 1).length + 1 : Nat) : Int) = ⟨9,s.f1,0,0⟩:=by
            unfold rd_T42
            rw [Int.toNat_natCast,hform,List.getD_eq_getElem?_getD,List.getElem?_cons_succ,List.getElem?_append_right (Nat.le_refl _)]
            simp
          have ew2 : wrap64 (((codF [s]).length : Int) - 2) = (((codL 2 s.f4 1).length + 1 : Nat) : Int):=by rw [hln,wrap_id (by omega) (by omega)];omega
          -- the body
          have hj2 : Ev (fun k=>laws_FnCodeIn.j2 k ts (i : Int) (!true)) true:=by
            refine Evs.succ (fun k=>by simp only [laws_FnCodeIn.j2];rfl) (Evs.ite_neg (by simp) (Evs.ite_pos (by omega) (Evs.ite_pos (by omega) ?_)))
            rw [hsg]
            have ib:=implOk s.f4
            refine Evs.bind ib ?_
            cases hb : okLst s.f4 with
            | false=>exact Evs.ite_neg (by simp) nx
            | true =>
              have hbc : cntL 3 s.f4 ≤ 5000000000000000:=by
                obtain ⟨m,k4,_⟩:=okS_kids2 hos
                have e3:=cnt_dep 2 s.f4 (dep_of 2 s.f4 m k4)
                have e1 : cntL 3 [s] = 1 + cntL 2 s.f4 + cntL 2 s.f5:=by rw [cntL_cons];simp [cntL]
                show cntL (2 + 1) s.f4 ≤ _
                omega
              have hce:=implCode_ev hbc
              rw [codeV_ok hb] at hce
              exact Evs.ite_pos rfl (Evs.bind hce (Evs.bind (codF_ok hb hbc) (Evs.ite_pos rfl nx)))
          rw [ew]
          refine Evs.ite_pos (by omega) (Evs.ite_pos (by omega) ?_)
          rw [Int.toNat_natCast,Int.toNat_natCast,hcut]
          refine Evs.bind hxe (Evs.ite_neg (by omega) (Evs.ite_pos (by omega) ?_))
          rw [h0,hsg]
          refine Evs.ite_pos rfl (Evs.ite_pos rfl ?_)
          rw [ew2]
          clear ew ew2
          refine Evs.ite_pos (by omega) (Evs.ite_pos (by omega) ?_)
          rw [h2]
          exact Evs.ite_pos rfl (Evs.bind hxo hj2)
        · exact Evs.ite_neg h8 nx
    exact key ts.length 0 (by omega)
end Go.Proofs.Ytphbdoljkpdflaa.Pure
