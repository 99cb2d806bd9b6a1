/- Parts of the proof of FnCodeBent: plain Lean functions of Go functions, and that the calls come to what they say; no condition beyond those that each theorem names. -/
import Derived.Test.YtphbdoljkpdflaaZFnCodeBent25
import Derived.Test.YtphbdoljkpdflaaZFnCodeBent24
import Derived.Test.YtphbdoljkpdflaaZFnCodeBent15
import Derived.Test.YtphbdoljkpdflaaZFnCodeBent17
import Derived.Test.YtphbdoljkpdflaaZFnCodeBent14
namespace Go.Proofs.Ytphbdoljkpdflaa.P
open Go.RowKit Go.Proofs.YtphbdoljkpdflaaW.PrintWords Go.Proofs.YtphbdoljkpdflaaW.PrintMore
set_option linter.unusedVariables false
set_option linter.unusedSimpArgs false
def AllI (c : List S42) : Prop:=1 ≤ c.length ∧ c.length ≤ 60 ∧ ∀ j,j < c.length → OkI c j
theorem rooms_both (c : List S42) (h : AllI c) : ∃ b : Bool,Ev (fun k=>impl_roomsOk.f k c) b ∧ (∃ rs,Ev (fun k=>spec_l4Rooms.f k c) (rs,b)) ∧ ((∀ j,j < c.length → FitI c 0 c.length j) → b = true):=by
  obtain ⟨h1,h2,hok⟩:=h
  have hlen : (List.replicate c.length (-2 : Int)).length = c.length:=by simp
  have hI : BInv c ((List.replicate c.length (-2 : Int)).set 0 (-1)) (([0] : List Int).drop 0):=by
    refine ⟨by simp,fun v hv=>?_,fun p hp=>?_⟩
    · rcases List.mem_or_eq_of_mem_set hv with hv | rfl
      · have:=(List.mem_replicate.1 hv).2
        omega
      · omega
    · obtain rfl : p = 0:=by simpa using hp
      refine ⟨by omega,by omega,?_⟩
      have:=rd_set_same (xs:=List.replicate c.length (-2 : Int)) (i:=0) (by simp;omega) (-1)
      rw [show ((0 : Nat) : Int) = 0 from rfl] at this
      rw [this]
      omega
  have hcnt : ((List.replicate c.length (-2 : Int)).set 0 (-1)).count (-2) ≤ 60:=by
    have:=List.count_le_length (a:=(-2 : Int)) (l:=(List.replicate c.length (-2 : Int)).set 0 (-1))
    simp at this
    omega
  obtain ⟨b,e1,⟨rs,e2⟩,e3⟩:=outer_loop c h2 hok 1000 0 _ [0] (by simp) hI (by simp;omega) (by simp;omega)
  refine ⟨b,?_,⟨rs,?_⟩,fun hf=>e3 hf ?_⟩
  · unfold impl_roomsOk.f
    have er : slices_Repeat_int_int.f ([-2] : List Int) (c.length : Int) = some (List.replicate c.length (-2)):=by
      unfold slices_Repeat_int_int.f
      rw [if_pos ⟨rfl,by omega,by omega⟩,Int.toNat_natCast]
      rfl
    refine Evs.bind0 er (Evs.ite_pos (by rw [hlen];omega) ?_)
    exact e1
  · unfold spec_l4Rooms.f
    have key : ∀ (e i : Nat),i + e = c.length → Ev (fun k=>spec_l4Rooms.l0 k c (List.replicate i (-1)) (i : Int)) (rs,b):=by
      intro e
      induction e with
      | zero =>
        intro i hi
        obtain rfl : i = c.length:=by omega
        refine Evs.succ (fun k=>by simp only [spec_l4Rooms.l0];rfl) (Evs.ite_neg (by omega) (Evs.ite_pos (by simp;omega) ?_))
        have em : ((List.replicate c.length (-2 : Int)).set 0 (-1)).map (· + 1) = (List.replicate c.length (-1 : Int)).set (0 : Int).toNat 0:=by
          rw [List.map_set,List.map_replicate]
          rfl
        rw [em] at e2
        exact e2
      | succ e ih =>
        intro i hi
        refine Evs.succ (fun k=>by simp only [spec_l4Rooms.l0];rfl) (Evs.ite_pos (by omega) (Evs.ite_pos (by simp;omega) ?_))
        rw [wrap_succ (by omega),← List.replicate_succ']
        exact ih (i + 1) (by omega)
    exact key c.length 0 (by omega)
  · intro j hj
    by_cases hz : j = 0
    · subst hz
      right
      have:=rd_set_same (xs:=List.replicate c.length (-2 : Int)) (i:=0) (by simp;omega) (-1)
      rw [this]
      rfl
    · left
      rw [rd_set_ne (by omega),rd_get (by simpa using hj)]
      simp
theorem specIns_ev (a0 a1 a2 a3 : Int) (n : Nat) : Ev (fun k=>spec_l4Ins.f k a0 a1 a2 a3 (n : Int)) (insB a0 a1 a2 a3 (n : Int)):=by
  have main : ∀ x5 : Bool,x5 = inR a1 3 → Ev (fun k=>spec_l4Ins.j0 k (n : Int) x5 a0 a1 a2 a3) (insB a0 a1 a2 a3 (n : Int)):=by
    intro x5 hx
    refine Evs.succ (fun k=>by simp only [spec_l4Ins.j0];rfl) ?_
    by_cases h1 : a0 = 1
    · have hv : leafOk a0 a1 a2 a3 (-1) = insB a0 a1 a2 a3 (n : Int):=by rw [h1];rw [Bool.eq_iff_iff];simp [leafOk,insB,insN,gmOk,gmA,gmB,gmX,fit,inR,numR];omega
      rw [← hv]
      exact Evs.ite_pos h1 (Evs.succ (fun k=>by simp only [spec_l4Ins.j1];rfl) (Evs.ite_pos (by simp [h1]) (Evs.bind (leaf_ev a0 a1 a2 a3 (-1) [] []) (Evs.some_ _))))
    refine Evs.ite_neg h1 ?_
    by_cases h2 : a0 = 2
    · have hv : leafOk a0 a1 a2 a3 (-1) = insB a0 a1 a2 a3 (n : Int):=by rw [h2];rw [Bool.eq_iff_iff];simp [leafOk,insB,insN,gmOk,gmA,gmB,gmX,fit,inR,numR];omega
      rw [← hv]
      exact Evs.ite_pos h2 (Evs.succ (fun k=>by simp only [spec_l4Ins.j1];rfl) (Evs.ite_pos (by simp [h2]) (Evs.bind (leaf_ev a0 a1 a2 a3 (-1) [] []) (Evs.some_ _))))
    refine Evs.ite_neg h2 ?_
    by_cases h3 : a0 = 3
    · have hv : leafOk a0 a1 a2 a3 (-1) = insB a0 a1 a2 a3 (n : Int):=by rw [h3];rw [Bool.eq_iff_iff];simp [leafOk,insB,insN,gmOk,gmA,gmB,gmX,fit,inR,numR];omega
      rw [← hv]
      exact Evs.ite_pos h3 (Evs.succ (fun k=>by simp only [spec_l4Ins.j1];rfl) (Evs.ite_pos (by simp [h3]) (Evs.bind (leaf_ev a0 a1 a2 a3 (-1) [] []) (Evs.some_ _))))
    refine Evs.ite_neg h3 ?_
    by_cases h4 : a0 = 4
    · have hv : leafOk a0 a1 a2 a3 (-1) = insB a0 a1 a2 a3 (n : Int):=by rw [h4];rw [Bool.eq_iff_iff];simp [leafOk,insB,insN,gmOk,gmA,gmB,gmX,fit,inR,numR];omega
      rw [← hv]
      exact Evs.ite_pos h4 (Evs.succ (fun k=>by simp only [spec_l4Ins.j1];rfl) (Evs.ite_pos (by simp [h4]) (Evs.bind (leaf_ev a0 a1 a2 a3 (-1) [] []) (Evs.some_ _))))
    refine Evs.ite_neg h4 ?_
    by_cases h5 : a0 = 5
    · have hv : leafOk a0 a1 a2 a3 (-1) = insB a0 a1 a2 a3 (n : Int):=by rw [h5];rw [Bool.eq_iff_iff];simp [leafOk,insB,insN,gmOk,gmA,gmB,gmX,fit,inR,numR];omega
      rw [← hv]
      exact (Evs.succ (fun k=>by simp only [spec_l4Ins.j1];rfl) (Evs.ite_pos (by simp [h5]) (Evs.bind (leaf_ev a0 a1 a2 a3 (-1) [] []) (Evs.some_ _))))
    refine Evs.succ (fun k=>by simp only [spec_l4Ins.j1];rfl) (Evs.ite_neg (by simpa using h5) ?_)
    by_cases h6 : a0 = 6
    · have hv : (x5 && (decide (a2 = 0) && (decide (a3 ≥ 0) && decide (a3 < (n : Int))))) = insB a0 a1 a2 a3 (n : Int):=by rw [hx,h6];rw [Bool.eq_iff_iff];simp [leafOk,insB,insN,gmOk,gmA,gmB,gmX,fit,inR,numR];omega
      rw [← hv]
      exact Evs.ite_pos h6 (ev_band fun _=>ev_and fun _=>ev_and fun _=>Evs.some_ _)
    refine Evs.ite_neg h6 ?_
    by_cases h7 : a0 = 7
    · have hv : (decide (a1 = 0) && (decide (a2 = 0) && (decide (a3 ≥ 0) && decide (a3 < (n : Int))))) = insB a0 a1 a2 a3 (n : Int):=by rw [h7];rw [Bool.eq_iff_iff];simp [leafOk,insB,insN,gmOk,gmA,gmB,gmX,fit,inR,numR];omega
      rw [← hv]
      exact Evs.ite_pos h7 (ev_and fun _=>ev_and fun _=>ev_and fun _=>Evs.some_ _)
    refine Evs.ite_neg h7 ?_
    by_cases h8 : a0 = 8
    · have hv : (decide (a1 ≥ 0) && (decide (a1 < 2) && (decide (a2 = 0) && (a3 == 0)))) = insB a0 a1 a2 a3 (n : Int):=by rw [h8];rw [Bool.eq_iff_iff];simp [leafOk,insB,insN,gmOk,gmA,gmB,gmX,fit,inR,numR];omega
      rw [← hv]
      exact Evs.ite_pos h8 (Evs.succ (fun k=>by simp only [spec_l4Ins.j2];rfl) (Evs.ite_pos (by simp [h8]) (ev_and fun _=>ev_and fun _=>ev_and fun _=>Evs.some_ _)))
    refine Evs.ite_neg h8 ?_
    by_cases h9 : a0 = 9
    · have hv : (decide (a1 ≥ 0) && (decide (a1 < 2) && (decide (a2 = 0) && (a3 == 0)))) = insB a0 a1 a2 a3 (n : Int):=by rw [h9];rw [Bool.eq_iff_iff];simp [leafOk,insB,insN,gmOk,gmA,gmB,gmX,fit,inR,numR];omega
      rw [← hv]
      exact (Evs.succ (fun k=>by simp only [spec_l4Ins.j2];rfl) (Evs.ite_pos (by simp [h9]) (ev_and fun _=>ev_and fun _=>ev_and fun _=>Evs.some_ _)))
    refine Evs.succ (fun k=>by simp only [spec_l4Ins.j2];rfl) (Evs.ite_neg (by simpa using h9) ?_)
    by_cases h10 : a0 = 10
    · have hv : (decide (a1 ≥ 0) && (decide (a1 < 2) && (decide (a2 = 0) && (a3 == 0)))) = insB a0 a1 a2 a3 (n : Int):=by rw [h10];rw [Bool.eq_iff_iff];simp [leafOk,insB,insN,gmOk,gmA,gmB,gmX,fit,inR,numR];omega
      rw [← hv]
      exact Evs.ite_pos h10 (Evs.succ (fun k=>by simp only [spec_l4Ins.j3];rfl) (Evs.ite_pos (by simp [h10]) (ev_and fun _=>ev_and fun _=>ev_and fun _=>Evs.some_ _)))
    refine Evs.ite_neg h10 ?_
    by_cases h11 : a0 = 11
    · have hv : (decide (a1 ≥ 0) && (decide (a1 < 2) && (decide (a2 = 0) && (a3 == 0)))) = insB a0 a1 a2 a3 (n : Int):=by rw [h11];rw [Bool.eq_iff_iff];simp [leafOk,insB,insN,gmOk,gmA,gmB,gmX,fit,inR,numR];omega
      rw [← hv]
      exact (Evs.succ (fun k=>by simp only [spec_l4Ins.j3];rfl) (Evs.ite_pos (by simp [h11]) (ev_and fun _=>ev_and fun _=>ev_and fun _=>Evs.some_ _)))
    refine Evs.succ (fun k=>by simp only [spec_l4Ins.j3];rfl) (Evs.ite_neg (by simpa using h11) ?_)
    by_cases h12 : a0 = 12
    · have hv : (decide (a1 = 0) && (decide (a2 = 0) && (a3 == 0))) = insB a0 a1 a2 a3 (n : Int):=by rw [h12];rw [Bool.eq_iff_iff];simp [leafOk,insB,insN,gmOk,gmA,gmB,gmX,fit,inR,numR];omega
      rw [← hv]
      exact Evs.ite_pos h12 (ev_and fun _=>ev_and fun _=>Evs.some_ _)
    refine Evs.ite_neg h12 ?_
    by_cases h13 : a0 = 13
    · have hv : (decide (a1 = 0) && (decide (a2 = 0) && (a3 == 0))) = insB a0 a1 a2 a3 (n : Int):=by rw [h13];rw [Bool.eq_iff_iff];simp [leafOk,insB,insN,gmOk,gmA,gmB,gmX,fit,inR,numR];omega
      rw [← hv]
      exact Evs.ite_pos h13 (ev_and fun _=>ev_and fun _=>Evs.some_ _)
    refine Evs.ite_neg h13 ?_
    have hv : insB a0 a1 a2 a3 (n : Int) = false:=by
      have : gmOk a0 = false:=by unfold gmOk;rw [decide_eq_false (by omega)]
      unfold insB;rw [this];rfl
    rw [hv]
    exact Evs.some_ _
  unfold spec_l4Ins.f
  by_cases h : a1 ≥ 0
  · exact Evs.ite_pos h (main _ (by unfold inR;rw [decide_eq_true (show 0 ≤ a1 from h),Bool.true_and]))
  · exact Evs.ite_neg h (main _ (by unfold inR;rw [decide_eq_false (show ¬ 0 ≤ a1 from h),Bool.false_and]))
def okJ (c : List S42) (j : Nat) : Bool:=insB (rd_T42 c j).f0 (rd_T42 c j).f1 (rd_T42 c j).f2 (rd_T42 c j).f3 (c.length : Int) && (decide ((rd_T42 c j).f0 = 13) == decide (j + 1 = c.length))
theorem okJ_iff (c : List S42) (j : Nat) : okJ c j = true ↔ OkI c j:=by
  unfold okJ OkI
  rw [Bool.and_eq_true,beq_iff_eq,decide_eq_decide]
theorem impl_lin (c : List S42) (hc : c.length ≤ 60) (b : Bool) (hb : (∀ j,j < c.length → okJ c j = true) → Ev (fun k=>impl_roomsOk.f k c) b) :
    ∀ (e i : Nat),i + e = c.length → (∀ j,j < i → okJ c j = true) → Ev (fun k=>impl_CodeOk.l0 k c c (c.length : Int) (i : Int)) (((List.range' i e).all (okJ c)) && b):=by
  intro e
  induction e with
  | zero =>
    intro i hi hp
    obtain rfl : i = c.length:=by omega
    refine Evs.succ (fun k=>by simp only [impl_CodeOk.l0];rfl) (Evs.ite_neg (by omega) ?_)
    exact Evs.bind (hb hp) (Evs.some_ _)
  | succ e ih =>
    intro i hi hp
    have ew : wrap64 ((c.length : Int) - 1) = ((c.length - 1 : Nat) : Int):=by rw [wrap_id (by omega) (by omega)];omega
    have hj : ((((rd_T42 c (i : Int)).f0) == 13) != ((i : Int) == wrap64 ((c.length : Int) - 1))) = !(decide ((rd_T42 c (i : Int)).f0 = 13) == decide (i + 1 = c.length)):=by
      rw [ew]
      have : ((i : Int) == ((c.length - 1 : Nat) : Int)) = decide (i + 1 = c.length):=by rw [Bool.eq_iff_iff];simp;omega
      rw [this]
      rfl
    clear ew
    refine Evs.succ (fun k=>by simp only [impl_CodeOk.l0];rfl) (Evs.ite_pos (by omega) (Evs.ite_pos (by omega) (Evs.ite_pos (by omega) (Evs.bind0 rfl ?_))))
    rw [List.range'_succ,List.all_cons]
    cases h1 : insB (rd_T42 c (i : Int)).f0 (rd_T42 c (i : Int)).f1 (rd_T42 c (i : Int)).f2 (rd_T42 c (i : Int)).f3 (c.length : Int) with
    | false =>
      have : okJ c i = false:=by unfold okJ;rw [h1];rfl
      rw [this]
      exact Evs.ite_neg (by simp) (Evs.some_ _)
    | true =>
      refine Evs.ite_pos rfl ?_
      rw [hj]
      cases h2 : (decide ((rd_T42 c (i : Int)).f0 = 13) == decide (i + 1 = c.length)) with
      | false =>
        have : okJ c i = false:=by unfold okJ;rw [h1,h2];rfl
        rw [this]
        exact Evs.ite_pos rfl (Evs.some_ _)
      | true =>
        have : okJ c i = true:=by unfold okJ;rw [h1,h2];rfl
        rw [this,Bool.true_and]
        refine Evs.ite_neg (by simp) ?_
        rw [wrap_succ (by omega)]
        exact ih (i + 1) (by omega) fun j hj=>by
          by_cases hji : j = i
          · rw [hji];exact this
          · exact hp j (by omega)
theorem spec_lin (c : List S42) (hc : c.length ≤ 60) (hlast : (rd_T42 c ((c.length - 1 : Nat) : Int)).f0 = 13) (b : Bool) (hb : (∀ j,j < c.length → okJ c j = true) → ∃ rs,Ev (fun k=>spec_l4Rooms.f k c) (rs,b)) :
    ∀ (e i : Nat),i + e = c.length → (∀ j,j < i → okJ c j = true) → Ev (fun k=>spec_CodeOk.l0 k c (c.length : Int) (i : Int)) (((List.range' i e).all (okJ c)) && b):=by
  intro e
  induction e with
  | zero =>
    intro i hi hp
    obtain rfl : i = c.length:=by omega
    obtain ⟨rs,hr⟩:=hb hp
    refine Evs.succ (fun k=>by simp only [spec_CodeOk.l0];rfl) (Evs.ite_neg (by omega) ?_)
    exact Evs.bind hr (Evs.some_ _)
  | succ e ih =>
    intro i hi hp
    refine Evs.succ (fun k=>by simp only [spec_CodeOk.l0];rfl) (Evs.ite_pos (by omega) (Evs.ite_pos (by omega) (Evs.ite_pos (by omega) (Evs.bind (specIns_ev _ _ _ _ c.length) ?_))))
    rw [List.range'_succ,List.all_cons]
    have ew : wrap64 ((c.length : Int) - 1) = ((c.length - 1 : Nat) : Int):=by rw [wrap_id (by omega) (by omega)];omega
    rw [ew]
    clear ew
    cases h1 : insB (rd_T42 c (i : Int)).f0 (rd_T42 c (i : Int)).f1 (rd_T42 c (i : Int)).f2 (rd_T42 c (i : Int)).f3 (c.length : Int) with
    | false =>
      have : okJ c i = false:=by unfold okJ;rw [h1];rfl
      rw [this]
      exact Evs.ite_neg (by simp) (Evs.some_ _)
    | true =>
      refine Evs.ite_pos rfl ?_
      have nx : okJ c i = true → Ev (fun k=>spec_CodeOk.l0 k c (c.length : Int) (wrap64 ((i : Int) + 1))) (((List.range' (i + 1) e).all (okJ c)) && b):=fun h=>by
        rw [wrap_succ (by omega)]
        exact ih (i + 1) (by omega) fun j hj=>by
          by_cases hji : j = i
          · rw [hji];exact h
          · exact hp j (by omega)
      by_cases h13 : (rd_T42 c (i : Int)).f0 = 13
      · refine Evs.ite_pos h13 ?_
        by_cases hl : i + 1 = c.length
        · have : okJ c i = true:=by unfold okJ;rw [h1,decide_eq_true h13,decide_eq_true hl];rfl
          rw [this,Bool.true_and]
          exact Evs.ite_neg (by omega) (nx this)
        · have : okJ c i = false:=by unfold okJ;rw [h1,decide_eq_true h13,decide_eq_false hl];rfl
          rw [this]
          exact Evs.ite_pos (by omega) (Evs.some_ _)
      · refine Evs.ite_neg h13 ?_
        have hl : ¬ i + 1 = c.length:=fun e=>h13 (by rw [show i = c.length - 1 by omega];exact hlast)
        have : okJ c i = true:=by unfold okJ;rw [h1,decide_eq_false h13,decide_eq_false hl];rfl
        rw [this,Bool.true_and]
        exact nx this
theorem code_both (c : List S42) : ∃ b : Bool,Ev (fun k=>impl_CodeOk.f k c) b ∧ Ev (fun k=>spec_CodeOk.f k c) b ∧ (b = true → AllI c) ∧ (AllI c → (∀ j,j < c.length → FitI c 0 c.length j) → b = true):=by
  have bad1 : Ev (fun k=>impl_CodeOk.j0 k c true) false:=Evs.succ (fun k=>by simp only [impl_CodeOk.j0];rfl) (Evs.ite_pos (by trivial) (Evs.some_ _))
  have bad2 : Ev (fun k=>spec_CodeOk.j0 k c (c.length : Int) true) false:=Evs.succ (fun k=>by simp only [spec_CodeOk.j0];rfl) (Evs.ite_pos (by trivial) (Evs.some_ _))
  unfold impl_CodeOk.f spec_CodeOk.f
  by_cases h1 : (c.length : Int) < 1
  · exact ⟨false,Evs.ite_pos h1 bad1,Evs.ite_pos h1 bad2,fun h=>(by cases h),fun h=>by have:=h.1;omega⟩
  by_cases h2 : (c.length : Int) > 60
  · refine ⟨false,Evs.ite_neg h1 ?_,Evs.ite_neg h1 (Evs.ite_pos h2 bad2),fun h=>(by cases h),fun h=>by have:=h.2.1;omega⟩
    rw [decide_eq_true h2]
    exact bad1
  have hc : c.length ≤ 60:=by omega
  have hn : 1 ≤ c.length:=by omega
  have ew : wrap64 ((c.length : Int) - 1) = ((c.length - 1 : Nat) : Int):=by rw [wrap_id (by omega) (by omega)];omega
  by_cases hall : ∀ j,j < c.length → okJ c j = true
  · have hA : AllI c:=⟨hn,hc,fun j hj=>(okJ_iff c j).1 (hall j hj)⟩
    obtain ⟨b,e1,⟨rs,e2⟩,e3⟩:=rooms_both c hA
    have hl13 : (rd_T42 c ((c.length - 1 : Nat) : Int)).f0 = 13:=(hA.2.2 (c.length - 1) (by omega)).2.2 (by omega)
    have hr : (List.range' 0 c.length).all (okJ c) = true:=by rw [← List.range_eq_range'];exact all_range_true hall
    have i1:=impl_lin c hc b (fun _=>e1) c.length 0 (by omega) (fun _ h=>by omega)
    have s1:=spec_lin c hc hl13 b (fun _=>⟨rs,e2⟩) c.length 0 (by omega) (fun _ h=>by omega)
    rw [hr,Bool.true_and] at i1 s1
    refine ⟨b,?_,?_,fun _=>hA,fun _ hf=>e3 hf⟩
    · refine Evs.ite_neg h1 ?_
      rw [decide_eq_false h2]
      exact Evs.succ (fun k=>by simp only [impl_CodeOk.j0];rfl) (Evs.ite_neg (by simp) i1)
    · refine Evs.ite_neg h1 (Evs.ite_neg h2 ?_)
      rw [ew,hl13]
      clear ew
      refine Evs.ite_pos (by omega) (Evs.ite_pos (by omega) ?_)
      exact Evs.succ (fun k=>by simp only [spec_CodeOk.j0];rfl) (Evs.ite_neg (by simp) s1)
  · have hr : (List.range' 0 c.length).all (okJ c) = false:=by
      rw [← List.range_eq_range',Bool.eq_false_iff]
      intro h
      rw [List.all_eq_true] at h
      exact hall fun j hj=>h j (List.mem_range.2 hj)
    have i1:=impl_lin c hc true (fun h=>absurd h hall) c.length 0 (by omega) (fun _ h=>by omega)
    rw [hr,Bool.false_and] at i1
    refine ⟨false,?_,?_,fun h=>(by cases h),fun h=>absurd (fun j hj=>(okJ_iff c j).2 (h.2.2 j hj)) hall⟩
    · refine Evs.ite_neg h1 ?_
      rw [decide_eq_false h2]
      exact Evs.succ (fun k=>by simp only [impl_CodeOk.j0];rfl) (Evs.ite_neg (by simp) i1)
    · refine Evs.ite_neg h1 (Evs.ite_neg h2 ?_)
      rw [ew]
      clear ew
      refine Evs.ite_pos (by omega) (Evs.ite_pos (by omega) ?_)
      by_cases hl13 : (rd_T42 c ((c.length - 1 : Nat) : Int)).f0 = 13
      · rw [hl13]
        have s1:=spec_lin c hc hl13 true (fun h=>absurd h hall) c.length 0 (by omega) (fun _ h=>by omega)
        rw [hr,Bool.false_and] at s1
        exact Evs.succ (fun k=>by simp only [spec_CodeOk.j0];rfl) (Evs.ite_neg (by simp) s1)
      · have : ((rd_T42 c ((c.length - 1 : Nat) : Int)).f0 != 13) = true:=by simpa using hl13
        rw [this]
        exact bad2
end Go.Proofs.Ytphbdoljkpdflaa.P

namespace Go.Proofs.Ytphbdoljkpdflaa.Pure
open Go.RowKit Go.Proofs.Ytphbdoljkpdflaa.P Go.Proofs.YtphbdoljkpdflaaW.PrintWords Go.Proofs.YtphbdoljkpdflaaW.PrintLast
open Go.Proofs.Ytphbdoljkpdflaa.P Go.Proofs.YtphbdoljkpdflaaW.PrintMore
theorem drawSame_ev {l : List Int} (h : ∀ x ∈ l,(Lit.int .u8 x).wf = true) : ∃ c d : List S42,c.length ≤ 30 ∧ d.length ≤ 30 ∧ Ev (fun k=>spec_DrawCodeSame.f k l) (c,d):=by
  obtain ⟨ys,ho,hb⟩:=open_eq l
  have hb:=hb h
  obtain ⟨ts,q,s0,s1,s2,q1,q2,e0⟩:=some_ev hb 0 (by omega) (by omega)
  have ht : SmL ts:=⟨by omega,s1⟩
  have hc:=smL_cnt ht
  have hl:=codeV_le hc
  obtain ⟨c',p',h1,h2⟩:=bentC_ev hb (codeV ts) (codeV_le hc) q (by omega) (by omega)
  refine ⟨codeV ts,c',by omega,h1,?_⟩
  unfold spec_DrawCodeSame.f
  exact Evs.bind0 ho (Evs.bind e0 (Evs.bind (specCode_ev (smL_sl ht 3) hc) (Evs.bind h2 (Evs.some_ _))))
theorem offI_symm (a b : List S42) (i : Nat) : offI a b i = offI b a i:=by
  unfold offI
  have e : ∀ x y : Int,(x == y) = (y == x):=fun x y=>Bool.beq_comm
  rw [e (rd_T42 a i).f0,e (rd_T42 a i).f1,e (rd_T42 a i).f2,e (rd_T42 a i).f3]
theorem sameI_symm (a b : List S42) : sameI a b = sameI b a:=by
  unfold sameI
  by_cases h : a.length = b.length
  · rw [if_pos h,if_pos h.symm,h]
    congr 1
    funext i
    rw [offI_symm]
  · rw [if_neg h,if_neg (fun e=>h e.symm)]
theorem rd_app {c : List S42} (d : List S42) {i : Nat} (h : i < c.length) : rd_T42 (c ++ d) (i : Int) = rd_T42 c (i : Int):=by
  unfold rd_T42
  rw [Int.toNat_natCast,List.getD_eq_getElem?_getD,List.getD_eq_getElem?_getD,List.getElem?_append_left h]
theorem rd_take {c : List S42} {n i : Nat} (h : i < n) : rd_T42 (c.take n) (i : Int) = rd_T42 c (i : Int):=by
  unfold rd_T42
  rw [Int.toNat_natCast,List.getD_eq_getElem?_getD,List.getD_eq_getElem?_getD,List.getElem?_take_of_lt h]
theorem bad_ev {c : List S42} (h : ¬ AllI c) : Ev (fun k=>impl_CodeOk.f k c) false:=by
  obtain ⟨b,hi,_,ha,_⟩:=code_both c
  cases b with
  | false=>exact hi
  | true=>exact absurd (ha rfl) h
theorem take_bad {c : List S42} (h : AllI c) : ¬ AllI (c.take (c.length - 1)):=by
  intro g
  obtain ⟨h1,h60,hok⟩:=h
  obtain ⟨g1,g60,gok⟩:=g
  rw [List.length_take] at g1 gok
  have a:=(gok (c.length - 2) (by omega)).2
  have b:=(hok (c.length - 2) (by omega)).2
  rw [rd_take (by omega),List.length_take] at a
  have:=a.2 (by omega)
  have:=b.1 this
  omega
theorem app_bad {c : List S42} (h : AllI c) (x : S42) : ¬ AllI (c ++ [x]):=by
  intro g
  obtain ⟨h1,h60,hok⟩:=h
  obtain ⟨g1,g60,gok⟩:=g
  have a:=(gok (c.length - 1) (by rw [List.length_append];simp;omega)).2
  have b:=(hok (c.length - 1) (by omega)).2
  rw [rd_app _ (by omega),List.length_append] at a
  have:=a.1 (b.2 (by omega))
  simp at this
  omega
theorem leave_bad : Ev (fun k=>impl_CodeOk.f k ([(⟨9,0,0,0⟩ : S42),⟨13,0,0,0⟩])) false:=Ev.of (impl_CodeOk.mono _) (k:=30) (by decide +kernel)
theorem enter_bad : Ev (fun k=>impl_CodeOk.f k ([(⟨8,0,0,0⟩ : S42),⟨13,0,0,0⟩])) false:=Ev.of (impl_CodeOk.mono _) (k:=30) (by decide +kernel)
theorem same_not (c : List S42) (x : S42) : sameI c (c ++ [x]) = false:=if_neg (by rw [List.length_append];simp)
theorem FnCodeBent : laws_FnCodeBent.Pure:=by
  intro l _ _ hw
  refine Ev.rounds (g:=fun k=>laws_FnCodeBent.f k l) ?_
  unfold laws_FnCodeBent.f
  by_cases c0 : (l.length : Int) > 1048576
  · exact Evs.ite_pos c0 (Evs.some_ _)
  obtain ⟨a,d,hal,hdl,hsd⟩:=drawSame_ev hw
  obtain ⟨c,hc,hd⟩:=drawOk_ev hw
  obtain ⟨b,hi,hs,ha,_⟩:=code_both c
  have hnil : Ev (fun k=>impl_CodeOk.f k ([] : List S42)) false:=bad_ev (fun h=>by have:=h.1;simp at this)
  refine Evs.ite_neg c0 (Evs.bind hsd (Evs.bind hd (Evs.bind (implSame_ev a d (by omega)) (Evs.bind (specSame_ev a d (by omega)) (Evs.ite_neg (by simp) (Evs.bind (implSame_ev a d (by omega)) (Evs.bind (implSame_ev d a (by omega)) (Evs.ite_neg (by rw [sameI_symm a d];simp) (Evs.bind hi (Evs.bind hs (Evs.ite_neg (by simp) (Evs.bind hnil ?_))))))))))))
  refine Evs.succ (fun k=>by simp only [laws_FnCodeBent.j0];rfl) (Evs.ite_neg (by simp) (Evs.bind hs ?_))
  cases b with
  | false=>exact Evs.ite_neg (by simp) (Evs.some_ _)
  | true =>
    have hall:=ha rfl
    have h1:=hall.1
    have ew : wrap64 ((c.length : Int) - 1) = ((c.length - 1 : Nat) : Int):=by rw [wrap_id (by omega) (by omega)];omega
    have e1 : ([] : List S42).length + c.length < 4398046511104:=by simp only [List.length_nil];omega
    have e2 : ([] ++ c : List S42).length < 4398046511104:=by rw [List.nil_append];omega
    have ht:=bad_ev (take_bad hall)
    have hx:=bad_ev (app_bad hall ⟨13,0,0,0⟩)
    have hn:=implSame_ev c (c ++ [⟨13,0,0,0⟩]) (by omega)
    rw [same_not] at hn
    refine Evs.ite_pos rfl (Evs.bind0 rfl (Evs.ite_pos e1 (Evs.bind0 rfl (Evs.ite_pos e2 (Evs.bind0 rfl ?_)))))
    rw [ew]
    clear ew
    refine Evs.ite_pos (by omega) (Evs.ite_pos (by omega) ?_)
    rw [Int.toNat_natCast]
    exact Evs.bind ht (Evs.ite_neg (by simp) (Evs.bind hx (Evs.ite_neg (by simp) (Evs.bind leave_bad (Evs.ite_neg (by simp) (Evs.bind enter_bad (Evs.ite_neg (by simp) (Evs.bind hn (Evs.some_ _)))))))))
end Go.Proofs.Ytphbdoljkpdflaa.Pure
