/- Parts of the proof of FnExactMeanOpen: plain Lean functions of Go functions, and that the calls come to what they say; no condition beyond those that each theorem names. -/
import Derived.Test.YtdjkmnkgaacmfaaZFnExactMeanOpen4
import Derived.Test.YtdjkmnkgaacmfaaZFnExactMeanOpen10
namespace Go.Proofs.Ytdjkmnkgaacmfaa.P
open Go.RowKit Go.Proofs.YtdjkmnkgaacmfaaW.PrintWords Go.Proofs.YtdjkmnkgaacmfaaW.PrintLast Go.Proofs.YtdjkmnkgaacmfaaW.PrintMore
open Bool renaming true → O, false → Z
open Go.Proofs.YtdjkmnkgaacmfaaW.PrintWords renaming Aside0.mk → J, pw_below_drewN → Y
open List renaming setIfInBounds_toArray → E, set_cons_zero → U, set_cons_succ → G
open Go renaming World.block_lt_of_cell? → X
attribute [local go_sem] max2_int min2_int max_two min_two max_three min_three max_four min_four
set_option linter.unusedVariables false
set_option linter.unusedSimpArgs false
def laws_szStmtSS.l0 : Nat → List (List (S56)) → Int → Int → Option (Int)
 | 0,_,_,_=>none
 | k + 1,x0,x1,x5=>if x5 < (x0.length : Int) then (if 0 ≤ x5 then ((laws_szStmtS.f k (rd_L2 x0 x5) x1).bind fun t107=>(if t107 < 0 then (some (-1)) else (laws_szStmtSS.l0 k x0 t107 (wrap64 (x5 + 1))))) else (none)) else (some x1)
def laws_szStmtSS.f (k : Nat) (l0 : List (List (S56))) (a1 : Int) : Option (Int):=if (wrap64 (a1 - (l0.length : Int))) < 0 then (some (-1)) else (laws_szStmtSS.l0 k l0 (wrap64 (a1 - (l0.length : Int))) 0)
set_option maxHeartbeats 8000000 in
set_option maxRecDepth 100000 in
theorem laws_szStmtSS.calls (k : Nat) (A0 : Option Addr) (c0 : Nat) (l0 : List (List (S56))) (a1 : Int) (r : Int) (w : World) (hr0 : Kd.C (Kd.slice 56 k56) w A0 l0.length l0) (hc0 : l0.length ≤ c0) (h : laws_szStmtSS.f k l0 a1 = some r) :
  Calls Try.prog 4 #[.slice A0 l0.length c0,.int .i64 a1] w fun e w'=>e = .returned (.int .i64 r) ∧ Below w.heap.size w w':=by
 have HR0:=J hr0;have HC0:=J hc0;clear hr0 hc0;have HB:=J (Below.refl w.heap.size w);have H : (if (wrap64 (a1 - (l0.length : Int))) < 0 then (some (-1)) else (laws_szStmtSS.l0 k l0 (wrap64 (a1 - (l0.length : Int))) 0)) = some r:=h;clear h
 by_cases c3 : (wrap64 (a1 - (l0.length : Int))) < 0
 ·rw [if_pos c3] at H;have c3b0 : decide ((wrap64 (a1 - (l0.length : Int))) < 0) = true:=decide_eq_true c3;clear c3;obtain rfl:=Option.some.inj H;go_enter Try.func4,Try.ntmps4
  go_wp2
  go_ret
  exact ⟨by first | rfl | (simp [errW_none,errW_some] <;> rfl) | (simp [*,errW_none,errW_some] <;> rfl),by repeat (first | (with_reducible first | exact HB.out | apply below_alloc | apply Y | apply below_drew1) | exact HB.out)⟩
 ·rw [if_neg c3] at H;have c3b0 : decide ((wrap64 (a1 - (l0.length : Int))) < 0) = false:=decide_eq_false c3;clear c3;have H':=J H;clear H;go_enter Try.func4,Try.ntmps4
  go_wp2
  go_loopg [1,5] k (fun kq v1 v5 w'=>∃ (x1_1 : Int) (x5_1 : Int),v1 = .int .i64 x1_1 ∧ v5 = .int .i64 x5_1 ∧ Aside0 (laws_szStmtSS.l0 kq l0 x1_1 x5_1 = some r) ∧ Aside0 (kq ≤ k) ∧ Aside0 (Below w.heap.size w w'))
  case atStart=>exact ⟨(wrap64 (a1 - (l0.length : Int))),(0),(by first | rfl | (simp;done) | (simp [*];done)),(by first | rfl | (simp;done) | (simp [*];done)),H',⟨Nat.le_refl _⟩,⟨by repeat (first | (with_reducible first | exact HB.out | apply below_alloc | apply Y | apply below_drew1) | exact HB.out)⟩⟩
  case round =>
   clear H';(try clear p2);(try clear c3);(try clear c3b0);obtain ⟨x1_1,x5_1,rfl,rfl,HA,HK1,HB⟩:=hrel
   cases gk with
   | zero=>exact absurd HA.out (by simp [laws_szStmtSS.l0])
   | succ k1 =>
    have H:=HA.out;clear HA;simp only [laws_szStmtSS.l0] at H
    by_cases c4 : x5_1 < (l0.length : Int)
    ·rw [if_pos c4] at H;have c4b0 : decide (x5_1 < (l0.length : Int)) = true:=decide_eq_true c4;clear c4
     by_cases c5 : 0 ≤ x5_1
     ·rw [if_pos c5] at H;have c5b0 : decide (0 ≤ x5_1) = true:=decide_eq_true c5;clear c5;replace H:=Option.bind_eq_some_iff.mp H;obtain ⟨t107,A60,H⟩:=H;replace H : (if t107 < 0 then (some (-1)) else (laws_szStmtSS.l0 k1 l0 t107 (wrap64 (x5_1 + 1)))) = some r:=H;have A6:=J A60;clear A60
      by_cases c7 : t107 < 0
      ·rw [if_pos c7] at H;have c7b0 : decide (t107 < 0) = true:=decide_eq_true c7;clear c7;obtain rfl:=Option.some.inj H
       have p106 : 0 ≤ (x5_1 : Int):=of_decide_eq_true (by first | (with_reducible assumption) | assumption)
       have q106 : x5_1 < (l0.length : Int):=of_decide_eq_true (by first | (with_reducible assumption) | assumption)
       obtain ⟨ad106,A106_0,c106_0,e106,hx106_0,hl106_0,hi106_0⟩:=at_L2 HR0.out x5_1 p106 q106
       cases e106
       replace hx106_0:=(HB.out.cell (X w _ hx106_0)).trans hx106_0;have HR106_0:=J hi106_0;have HC106_0:=J hl106_0;clear hi106_0 hl106_0;replace p106:=eq_true p106;replace q106:=eq_true q106
       go_wp2_with (first | ((with_reducible refine gate_callee (f:=13) rfl ?_);refine goesM_ (some 23) Try.func13 #[.slice A106_0 (rd_L2 l0 x5_1).length c106_0,.int .i64 x1_1] ?_;(with_reducible refine (laws_szStmtS.calls k1 _ _ (rd_L2 l0 x5_1) x1_1 t107 _ ?side1 ?side2 A6.out).mono ?_);(case side1=>repeat (first | exact (Kd.C_below HR106_0.out HB.out) | (with_reducible refine Kd.C_alloc ?_ _) | (with_reducible refine Kd.C_drewN ?_ _) | (with_reducible refine Kd.C_drew ?_)));(case side2=>exact HC106_0.out);rintro e w8 ⟨rfl,hb⟩;refine ⟨_,rfl,?_⟩;have n0_:=J (below_step (q0_ HB) hb);clear HB;have HB:=n0_;clear n0_;(try clear hb)))
       go_ret
       exact ⟨by first | rfl | (simp [errW_none,errW_some] <;> rfl) | (simp [*,errW_none,errW_some] <;> rfl),by repeat (first | (with_reducible first | exact HB.out | apply below_alloc | apply Y | apply below_drew1) | exact HB.out)⟩
      ·rw [if_neg c7] at H;have c7b0 : decide (t107 < 0) = false:=decide_eq_false c7;clear c7;have H':=J H;clear H
       have p106 : 0 ≤ (x5_1 : Int):=of_decide_eq_true (by first | (with_reducible assumption) | assumption)
       have q106 : x5_1 < (l0.length : Int):=of_decide_eq_true (by first | (with_reducible assumption) | assumption)
       obtain ⟨ad106,A106_0,c106_0,e106,hx106_0,hl106_0,hi106_0⟩:=at_L2 HR0.out x5_1 p106 q106
       cases e106
       replace hx106_0:=(HB.out.cell (X w _ hx106_0)).trans hx106_0;have HR106_0:=J hi106_0;have HC106_0:=J hl106_0;clear hi106_0 hl106_0;replace p106:=eq_true p106;replace q106:=eq_true q106
       go_wp2_with (first | ((with_reducible refine gate_callee (f:=13) rfl ?_);refine goesM_ (some 23) Try.func13 #[.slice A106_0 (rd_L2 l0 x5_1).length c106_0,.int .i64 x1_1] ?_;(with_reducible refine (laws_szStmtS.calls k1 _ _ (rd_L2 l0 x5_1) x1_1 t107 _ ?side1 ?side2 A6.out).mono ?_);(case side1=>repeat (first | exact (Kd.C_below HR106_0.out HB.out) | (with_reducible refine Kd.C_alloc ?_ _) | (with_reducible refine Kd.C_drewN ?_ _) | (with_reducible refine Kd.C_drew ?_)));(case side2=>exact HC106_0.out);rintro e w9 ⟨rfl,hb⟩;refine ⟨_,rfl,?_⟩;have n0_:=J (below_step (q0_ HB) hb);clear HB;have HB:=n0_;clear n0_;(try clear hb)))
       go_roundg k1
       case measure=>have:=HK1.out;omega
       case rel=>exact ⟨(t107),(wrap64 (x5_1 + 1)),(by first | rfl | (simp;done) | (simp [*];done)),(by first | rfl | (simp;done) | (simp [*];done)),H',⟨by have:=HK1.out;omega⟩,⟨by repeat (first | (with_reducible first | exact HB.out | apply below_alloc | apply Y | apply below_drew1) | exact HB.out)⟩⟩
     ·rw [if_neg c5] at H
      exact absurd H (by simp)
    ·rw [if_neg c4] at H;have c4b0 : decide (x5_1 < (l0.length : Int)) = false:=decide_eq_false c4;clear c4;obtain rfl:=Option.some.inj H
     go_wp2
     go_ret
     exact ⟨by first | rfl | (simp [errW_none,errW_some] <;> rfl) | (simp [*,errW_none,errW_some] <;> rfl),by repeat (first | (with_reducible first | exact HB.out | apply below_alloc | apply Y | apply below_drew1) | exact HB.out)⟩
def laws_toStmtSS.l0 : Nat → List (List (S56)) → List (List (S61)) → Int → Option ((List (List (S61))))
 | 0,_,_,_=>none
 | k + 1,x0,x3,x4=>if x4 < (x0.length : Int) then (if 0 ≤ x4 then ((laws_toStmtS.f k (rd_L2 x0 x4)).bind fun t267=>(if x4 < (x3.length : Int) then (laws_toStmtSS.l0 k x0 (x3.set (x4 : Int).toNat t267) (wrap64 (x4 + 1))) else (none))) else (none)) else (some x3)
def laws_toStmtSS.f (k : Nat) (l0 : List (List (S56))) : Option ((List (List (S61)))):=if 0 ≤ (l0.length : Int) then (if ((l0.length : Int) : Int).toNat ≤ 11728124029610 then (laws_toStmtSS.l0 k l0 (List.replicate ((l0.length : Int) : Int).toNat []) 0) else (none)) else (none)
set_option maxHeartbeats 8000000 in
set_option maxRecDepth 100000 in
theorem laws_toStmtSS.calls (k : Nat) (A0 : Option Addr) (c0 : Nat) (l0 : List (List (S56))) (r : List (List (S61))) (w : World) (hr0 : Kd.C (Kd.slice 56 k56) w A0 l0.length l0) (hc0 : l0.length ≤ c0) (h : laws_toStmtSS.f k l0 = some r) :
  Calls Try.prog 6 #[.slice A0 l0.length c0] w fun e w'=>∃ v0_ : Value,e = .returned (v0_) ∧ Kd.R (Kd.slice 61 k61) 41 w' w.heap.size (fun _=>True) v0_ r ∧ Below w.heap.size w w':=by
 have HR0:=J hr0;have HC0:=J hc0;clear hr0 hc0;have HB:=J (Below.refl w.heap.size w);have H : (if 0 ≤ (l0.length : Int) then (if ((l0.length : Int) : Int).toNat ≤ 11728124029610 then (laws_toStmtSS.l0 k l0 (List.replicate ((l0.length : Int) : Int).toNat []) 0) else (none)) else (none)) = some r:=h;clear h
 by_cases c2 : 0 ≤ (l0.length : Int)
 ·rw [if_pos c2] at H;have c2b0:=eq_true c2;have c2b1 : decide (0 ≤ (l0.length : Int)) = true:=decide_eq_true c2;clear c2
  by_cases c3 : ((l0.length : Int) : Int).toNat ≤ 11728124029610
  ·rw [if_pos c3] at H;have c3b0:=eq_true c3;have c3b1 : decide (((l0.length : Int) : Int).toNat ≤ 11728124029610) = true:=decide_eq_true c3;clear c3;obtain ⟨y263,hy263⟩ : ∃ y_ : List (List (S61)),y_ = (List.replicate ((l0.length : Int) : Int).toNat []):=⟨_,rfl⟩
   replace H : (laws_toStmtSS.l0 k l0 y263 0) = some r:=by first | (rw [hy263];with_reducible exact H) | (have H2_:=(Option.bind_some _ _).symm.trans H;rw [hy263];with_reducible exact H2_) | (have H2_:=(Option.bind_some _ _).symm.trans H;with_reducible exact H2_) | with_reducible exact H | (rw [hy263];exact H) | exact H
   have Ny263:=J hy263;clear hy263;have H':=J H;clear H;go_enter Try.func6,Try.ntmps6
   go_wp2_with (first | ((with_reducible refine gate_dst (N:=7) rfl ?_);refine Kd.R_make (Kd.slice 61 k61) _ 41 rfl (N:=7) rfl 31 _ _ rfl (l0.length : Int) rfl rfl Try.underlying31 (.slice none 0 0) 24 info41 rfl (by decide) (by omega) [] (ok:=fun _=>True) (okp:=fun _=>True) ⟨_,rfl,Kd.R_nil _ _ _ _ _⟩ (fun _ hk=>hk) trivial (of_decide_eq_true (by first | (with_reducible assumption) | assumption)) (Nat.le_trans (Nat.mul_le_mul_right _ (of_decide_eq_true (by first | (with_reducible assumption) | assumption) : (l0.length : Int).toNat ≤ 11728124029610)) (by omega)) (Below.refl _ _) (Nat.le_refl _) ?_;intro v264 w4 ho5 hb hg_ hnew_;clear hg_ hnew_;(first | rw [← Ny263.out] at ho5 | (simp only [Int.reduceToNat] at ho5;rw [← Ny263.out] at ho5));have n0_:=J (Kd.R_lower ho5 (below_size (q0_ HB)));have n1_:=J (below_step (q0_ HB) hb);clear HB;have HO265:=n0_;have HB:=n1_;clear n0_ n1_ hb ho5))
   go_loopg [4] k (fun kq v4 w'=>∃ (x3_1 : List (List (S61))) (x4_1 : Int),v4 = .int .i64 x4_1 ∧ Aside0 (laws_toStmtSS.l0 kq l0 x3_1 x4_1 = some r) ∧ Aside0 (kq ≤ k) ∧ Aside0 (Kd.R (Kd.slice 61 k61) 41 w' w.heap.size (fun _=>True) v264 x3_1) ∧ Aside0 (Below w.heap.size w w'))
   case atStart=>exact ⟨(y263),(0),(by first | rfl | (simp;done) | (simp [*];done)),H',⟨Nat.le_refl _⟩,⟨by (with_reducible repeat (first | apply Kd.R_alloc | apply Kd.R_drewN | apply Kd.R_drew));exact HO265.out⟩,⟨by repeat (first | (with_reducible first | exact HB.out | apply below_alloc | apply Y | apply below_drew1) | exact HB.out)⟩⟩
   case round =>
    clear H';(try clear c2);(try clear c2b0);(try clear c2b1);(try clear p2);(try clear c3);(try clear c3b0);(try clear c3b1);obtain ⟨x3_1,x4_1,rfl,HA,HK1,HO_3,HB⟩:=hrel
    cases gk with
    | zero=>exact absurd HA.out (by simp [laws_toStmtSS.l0])
    | succ k1 =>
     have H:=HA.out;clear HA;simp only [laws_toStmtSS.l0] at H
     by_cases c6 : x4_1 < (l0.length : Int)
     ·rw [if_pos c6] at H;have c6b0 : decide (x4_1 < (l0.length : Int)) = true:=decide_eq_true c6;clear c6
      by_cases c7 : 0 ≤ x4_1
      ·rw [if_pos c7] at H;have c7b0 : decide (0 ≤ x4_1) = true:=decide_eq_true c7;clear c7;replace H:=Option.bind_eq_some_iff.mp H;obtain ⟨t267,A80,H⟩:=H;replace H : (if x4_1 < (x3_1.length : Int) then (laws_toStmtSS.l0 k1 l0 (x3_1.set (x4_1 : Int).toNat t267) (wrap64 (x4_1 + 1))) else (none)) = some r:=H;have A8:=J A80;clear A80
       by_cases c9 : x4_1 < (x3_1.length : Int)
       ·rw [if_pos c9] at H;have c9b0 : decide (x4_1 < (x3_1.length : Int)) = true:=decide_eq_true c9;clear c9;obtain ⟨y270,hy270⟩ : ∃ y_ : List (List (S61)),y_ = (x3_1.set (x4_1 : Int).toNat t267):=⟨_,rfl⟩
        replace H : (laws_toStmtSS.l0 k1 l0 y270 (wrap64 (x4_1 + 1))) = some r:=by first | (rw [hy270];with_reducible exact H) | (have H2_:=(Option.bind_some _ _).symm.trans H;rw [hy270];with_reducible exact H2_) | (have H2_:=(Option.bind_some _ _).symm.trans H;with_reducible exact H2_) | with_reducible exact H | (rw [hy270];exact H) | exact H
        have Ny270:=J hy270;clear hy270;have H':=J H;clear H
        have p266 : 0 ≤ (x4_1 : Int):=of_decide_eq_true (by first | (with_reducible assumption) | assumption)
        have q266 : x4_1 < (l0.length : Int):=of_decide_eq_true (by first | (with_reducible assumption) | assumption)
        obtain ⟨ad266,A266_0,c266_0,e266,hx266_0,hl266_0,hi266_0⟩:=at_L2 HR0.out x4_1 p266 q266
        cases e266
        replace hx266_0:=(HB.out.cell (X w _ hx266_0)).trans hx266_0;have HR266_0:=J hi266_0;have HC266_0:=J hl266_0;clear hi266_0 hl266_0;replace p266:=eq_true p266;replace q266:=eq_true q266
        go_wp2_with (first | ((with_reducible refine gate_callee (f:=16) rfl ?_);refine goesM_ (some 20) Try.func16 #[.slice A266_0 (rd_L2 l0 x4_1).length c266_0] ?_;(with_reducible refine (laws_toStmtS.calls k1 _ _ (rd_L2 l0 x4_1) t267 _ ?side1 ?side2 A8.out).mono ?_);(case side1=>repeat (first | exact (Kd.C_below HR266_0.out HB.out) | (with_reducible refine Kd.C_alloc ?_ _) | (with_reducible refine Kd.C_drewN ?_ _) | (with_reducible refine Kd.C_drew ?_)));(case side2=>exact HC266_0.out);rintro e w11 ⟨v268,rfl,ho0,hb⟩;refine ⟨_,rfl,?_⟩;have n0_:=J (Kd.R_elder' (q6_ HO_3) (Kd.R_base ho0) hb);have n1_:=J (Kd.R_lower ho0 (below_size (q0_ HB)));have n2_:=J (below_step (q0_ HB) hb);clear HO_3 HB;have HO_3:=n0_;have HO269:=n1_;have HB:=n2_;clear n0_ n1_ n2_;(try clear hb);(try clear hk);(try clear ho0);have p10 : 0 ≤ (x4_1 : Int):=of_decide_eq_true (by first | (with_reducible assumption) | assumption);have q10 : (x4_1 : Int) < ((x3_1.length : Int) : Int):=of_decide_eq_true (by first | (with_reducible assumption) | assumption);obtain ⟨go10,co10,eo10,gb10,gl10,cl10,HG10⟩:=Kd.R_form HO_3.out (by omega);(first | cases eo10 | (injection eo10 with ea_ en_ ec_;(first | subst ea_ | (injection ea_ with ea_;subst ea_));subst ec_;clear en_));have GB10:=J gb10;have GG10:=J HG10;clear gb10 gl10 HG10;obtain ⟨ce10,hcl10,hM10,hcc10,hfr10⟩:=Kd.R_elem HO_3.out [] (x4_1 : Int) p10 q10;obtain ⟨ve10_0,rfl,ge10_0⟩:=hM10;have hx10_0:=hcc10 0 _ rfl;have hf10_0:=hfr10 0;(try simp only [show ((Kd.slice 61 k61)).sz = 1 from rfl,Nat.mul_one,Nat.add_zero] at hx10_0);(try simp only [show ((Kd.slice 61 k61)).sz = 1 from rfl,Nat.mul_one,Nat.add_zero] at hf10_0);clear hcl10 hcc10 hfr10;(try clear hM10);replace p10:=eq_true p10;replace q10:=eq_true q10;have n_:=J (Kd.R_mono (ok':=(fun k_=>some k_ ≠ (v268 : Value).ownBlock)) HO_3.out (fun k_ hk=>hk.2));clear HO_3;have HO_3:=n_;clear n_;have HX12:=J (show Kd.R (Kd.slice 61 k61) 41 w11 w.heap.size (fun _=>True) (.slice (some ⟨go10,0,none⟩) x3_1.length co10) x3_1 from (by (with_reducible repeat (first | apply Kd.R_alloc | apply Kd.R_drewN | apply Kd.R_drew));exact Kd.R_mono HO_3.out (fun _ hk=>trivial)));obtain ⟨ce12,hcl12,hM12,hcc12,hfr12⟩:=Kd.R_elem HX12.out [] (x4_1 : Int) (of_decide_eq_true (by first | (with_reducible assumption) | assumption)) (by have h_ : (x4_1 : Int) < ((x3_1.length : Int) : Int):=of_decide_eq_true (by first | (with_reducible assumption) | assumption);first | exact h_ | (have e_:=(Kd.R_reads' HO_3.out).1;omega) | simpa using h_);obtain ⟨ve12_0,rfl,ge12_0⟩:=hM12;obtain ⟨A_v268,c_v268,e_v268⟩:=Kd.R_slice HO269.out;subst e_v268;have HP12:=Kd.R_seg HX12.out (x4_1 : Int) (of_decide_eq_true (by first | (with_reducible assumption) | assumption)) (by have h_ : (x4_1 : Int) < ((x3_1.length : Int) : Int):=of_decide_eq_true (by first | (with_reducible assumption) | assumption);first | exact h_ | (have e_:=(Kd.R_reads' HO_3.out).1;omega) | simpa using h_) (seg:=[(.slice A_v268 t267.length c_v268)]) (j:=0) hcl12 hcc12 (show 1 ≤ 1 from by decide) (x':=t267) (Kd.M_row (Kd.R_mono (Kd.R_apart' (HO269.out) (Kd.R_typed HO_3.out) (by decide)) (fun k_ hk=>⟨trivial,fun e_=>(hk.2) (by rw [e_];rfl)⟩))) (fun _ hk=>hk);have hx12_0:=hcc12 0 _ rfl;(try simp only [show ((Kd.slice 61 k61)).sz = 1 from rfl,Nat.mul_one,Nat.add_zero] at hx12_0);have hf12_0:=hfr12 0;(try simp only [show ((Kd.slice 61 k61)).sz = 1 from rfl,Nat.mul_one,Nat.add_zero] at hf12_0);clear hcl12 hcc12 hfr12;(try clear hM12);(try simp only [show ((Kd.slice 61 k61)).sz = 1 from rfl,Nat.mul_one,Nat.add_zero] at HP12)) | ((with_reducible refine gate_store (t:=41) (p:=21) rfl ?_);refine store_event (t:=41) (p:=21) (v:=?vo_w13) (w1:=(w11.setCell ⟨go10,(x4_1 : Int).toNat,none⟩ ((.slice A_v268 t267.length c_v268)))) ?hg ?ho ?hn ?hr ?_;(case ho=>rfl);(case hg=>rfl);(case hn=>rfl);(case hr=>first | (go_simp;done) | (go_simp;rfl));intro w13 hw;have hg : w11.grownBy w13 (some go10):=(by rw [hw];exact HP12.2);have hp_ : Kd.R (Kd.slice 61 k61) 41 w13 w.heap.size (fun _=>True) (.slice (some ⟨go10,0,none⟩) x3_1.length co10) y270:=(by rw [hw,Ny270.out];exact HP12.1);clear HP12;have n0_:=J (hp_);have n1_:=J ((by rw [hw];exact below_set (HB.out) GB10.out : Below w.heap.size w w13));clear HO_3 HB HO269;have HO_3:=n0_;have HB:=n1_;clear n0_ n1_ hg hw hp_))
        go_roundg k1
        case measure=>have:=HK1.out;omega
        case rel=>exact ⟨(y270),(wrap64 (x4_1 + 1)),(by first | rfl | (simp;done) | (simp [*];done)),H',⟨by have:=HK1.out;omega⟩,⟨by (with_reducible repeat (first | apply Kd.R_alloc | apply Kd.R_drewN | apply Kd.R_drew));exact HO_3.out⟩,⟨by repeat (first | (with_reducible first | exact HB.out | apply below_alloc | apply Y | apply below_drew1) | exact HB.out)⟩⟩
       ·rw [if_neg c9] at H
        exact absurd H (by simp)
      ·rw [if_neg c7] at H
       exact absurd H (by simp)
     ·rw [if_neg c6] at H;have c6b0 : decide (x4_1 < (l0.length : Int)) = false:=decide_eq_false c6;clear c6;obtain rfl:=Option.some.inj H
      go_wp2
      go_ret
      exact ⟨_,by first | rfl | (simp [errW_none,errW_some] <;> rfl) | (simp [*,errW_none,errW_some] <;> rfl),by (with_reducible repeat (first | apply Kd.R_alloc | apply Kd.R_drewN | apply Kd.R_drew));exact HO_3.out,by repeat (first | (with_reducible first | exact HB.out | apply below_alloc | apply Y | apply below_drew1) | exact HB.out)⟩
  ·rw [if_neg c3] at H
   exact absurd H (by simp)
 ·rw [if_neg c2] at H
  exact absurd H (by simp)
def laws_eqStmtSS.l0 : Nat → List (List (S61)) → List (List (S61)) → Int → Option (Bool)
 | 0,_,_,_=>none
 | k + 1,x0,x1,x5=>if x5 < (x0.length : Int) then (if 0 ≤ x5 then (if x5 < (x1.length : Int) then ((laws_eqStmtS.f k (rd_L5 x0 x5) (rd_L5 x1 x5)).bind fun t353=>(if t353 = true then (laws_eqStmtSS.l0 k x0 x1 (wrap64 (x5 + 1))) else (some false))) else (none)) else (none)) else (some true)
def laws_eqStmtSS.f (k : Nat) (l0 : List (List (S61))) (l1 : List (List (S61))) : Option (Bool):=if (l0.length : Int) = (l1.length : Int) then (laws_eqStmtSS.l0 k l0 l1 0) else (some false)
def laws_eqStmtSS.T6 : Bool × List (List Nat × List Nat):=(true,[([],[]),([],[]),([0,1],[0,1]),([2],[2]),([],[]),([],[]),([4,5],[4,5]),([6],[6]),([3,7],[3,7]),([8],[8])])
def laws_eqStmtSS.B6 : List Nat:=[0,0,3,7,0,0,48,112,255,511]
theorem laws_eqStmtSS.tab6 : rtab .any (opsOf Try.f9 6) = laws_eqStmtSS.T6:=by kernel_rfl
theorem laws_eqStmtSS.bits6 : waitsOk laws_eqStmtSS.T6.2 laws_eqStmtSS.B6 = true:=by kernel_rfl
set_option maxHeartbeats 8000000 in
set_option maxRecDepth 100000 in
theorem laws_eqStmtSS.calls (k : Nat) (A0 : Option Addr) (c0 : Nat) (l0 : List (List (S61))) (A1 : Option Addr) (c1 : Nat) (l1 : List (List (S61))) (r : Bool) (w : World) (hr0 : Kd.C (Kd.slice 61 k61) w A0 l0.length l0) (hc0 : l0.length ≤ c0) (hr1 : Kd.C (Kd.slice 61 k61) w A1 l1.length l1) (hc1 : l1.length ≤ c1) (h : laws_eqStmtSS.f k l0 l1 = some r) :
  Calls Try.prog 9 #[.slice A0 l0.length c0,.slice A1 l1.length c1] w fun e w'=>e = .returned (.bool r) ∧ Below w.heap.size w w':=by
 have HR0:=J hr0;have HC0:=J hc0;clear hr0 hc0;have HR1:=J hr1;have HC1:=J hc1;clear hr1 hc1;have HB:=J (Below.refl w.heap.size w);have H : (if (l0.length : Int) = (l1.length : Int) then (laws_eqStmtSS.l0 k l0 l1 0) else (some false)) = some r:=h;clear h
 by_cases c3 : (l0.length : Int) = (l1.length : Int)
 ·rw [if_pos c3] at H;have c3b0 : ((l0.length : Int) == (l1.length : Int)) = true:=beq_iff_eq.mpr c3;have c3b1 : ((l0.length : Int) != (l1.length : Int)) = false:=bne_eq_false_iff_eq.mpr c3
  have c3b2 : (l0.length == l1.length) = true:=by first | simpa using c3 | (simp at c3 ⊢;omega)
  clear c3;have H':=J H;clear H;go_enter Try.func9,Try.ntmps9
  go_wp2
  go_loopg [5] k (fun kq v5 w'=>∃ (x5_1 : Int),v5 = .int .i64 x5_1 ∧ Aside0 (laws_eqStmtSS.l0 kq l0 l1 x5_1 = some r) ∧ Aside0 (kq ≤ k) ∧ Aside0 (Below w.heap.size w w'))
  case atStart=>exact ⟨(0),(by first | rfl | (simp;done) | (simp [*];done)),H',⟨Nat.le_refl _⟩,⟨by repeat (first | (with_reducible first | exact HB.out | apply below_alloc | apply Y | apply below_drew1) | exact HB.out)⟩⟩
  case round =>
   clear H';(try clear c1);(try clear p2);(try clear c3);(try clear c3b0);(try clear c3b1);(try clear c3b2);obtain ⟨x5_1,rfl,HA,HK1,HB⟩:=hrel
   cases gk with
   | zero=>exact absurd HA.out (by simp [laws_eqStmtSS.l0])
   | succ k1 =>
    have H:=HA.out;clear HA;simp only [laws_eqStmtSS.l0] at H
    by_cases c4 : x5_1 < (l0.length : Int)
    ·rw [if_pos c4] at H;have c4b0 : decide (x5_1 < (l0.length : Int)) = true:=decide_eq_true c4;clear c4
     by_cases c5 : 0 ≤ x5_1
     ·rw [if_pos c5] at H;have c5b0 : decide (0 ≤ x5_1) = true:=decide_eq_true c5;clear c5
      by_cases c6 : x5_1 < (l1.length : Int)
      ·rw [if_pos c6] at H;have c6b0 : decide (x5_1 < (l1.length : Int)) = true:=decide_eq_true c6;clear c6;replace H:=Option.bind_eq_some_iff.mp H;obtain ⟨t353,A70,H⟩:=H;replace H : (if t353 = true then (laws_eqStmtSS.l0 k1 l0 l1 (wrap64 (x5_1 + 1))) else (some false)) = some r:=H;have A7:=J A70;clear A70
       by_cases c8 : t353 = true
       ·subst c8
        have H1 : (laws_eqStmtSS.l0 k1 l0 l1 (wrap64 (x5_1 + 1))) = some r:=by rw [if_pos rfl] at H;exact H
        clear H;have H:=H1;clear H1;have H':=J H;clear H
        try go_wp2
        have n0_:=J (below_drew1 HB.out);clear HB;have HB:=n0_;clear n0_
        have p351 : 0 ≤ (x5_1 : Int):=of_decide_eq_true (by first | (with_reducible assumption) | assumption)
        have q351 : x5_1 < (l0.length : Int):=of_decide_eq_true (by first | (with_reducible assumption) | assumption)
        obtain ⟨ad351,A351_0,c351_0,e351,hx351_0,hl351_0,hi351_0⟩:=at_L5 HR0.out x5_1 p351 q351;have hw351_0:=hx351_0
        cases e351
        replace hx351_0:=(HB.out.cell (X w _ hx351_0)).trans hx351_0;have HR351_0:=J hi351_0;have HC351_0:=J hl351_0;clear hi351_0 hl351_0;replace p351:=eq_true p351;replace q351:=eq_true q351
        have p352 : 0 ≤ (x5_1 : Int):=of_decide_eq_true (by first | (with_reducible assumption) | assumption)
        have q352 : x5_1 < (l1.length : Int):=of_decide_eq_true (by first | (with_reducible assumption) | assumption)
        obtain ⟨ad352,A352_0,c352_0,e352,hx352_0,hl352_0,hi352_0⟩:=at_L5 HR1.out x5_1 p352 q352;have hw352_0:=hx352_0
        cases e352
        replace hx352_0:=(HB.out.cell (X w _ hx352_0)).trans hx352_0;have HR352_0:=J hi352_0;have HC352_0:=J hl352_0;clear hi352_0 hl352_0;replace p352:=eq_true p352;replace q352:=eq_true q352
        refine start_ (n:=10) (S:=fun w'=>w'.cell? (ad351.add (x5_1).toNat) = some (.slice A351_0 (rd_L5 l0 x5_1).length c351_0) ∧ w'.cell? (ad352.add (x5_1).toNat) = some (.slice A352_0 (rd_L5 l1 x5_1).length c352_0)) (ds:=[]) #[Z,Z,Z,Z,Z,Z,Z,Z,Z,Z] (by kernel_rfl) rfl rfl ⟨((HB.out.cell (X w _ hw351_0)).trans hw351_0),((HB.out.cell (X w _ hw352_0)).trans hw352_0)⟩ (fun hHeld=>?_);refine with_tabW laws_eqStmtSS.tab6 laws_eqStmtSS.bits6 (fun HT_ HW_=>?_)
        generalize wr.drew = w9 at HB HR351_0 HR352_0 hx351_0 hx352_0 hHeld ⊢
        refine pure_ (i:=0) (N:=some 17) (v:=?_) (a':=?_) #[O,Z,Z,Z,Z,Z,Z,Z,Z,Z] rfl rfl (any_of HT_.out (by kernel_rfl)) (fun _ _ _ h=>h) (Or.inl ⟨by rfl,?_⟩) ?_ ?_;rotate_left;(intro w';go_simp;with_reducible rfl);rotate_left;((try simp only [Act.put,E,U,G,i64_w,i32_w]);rfl)
        refine pure_ (i:=1) (N:=some 18) (v:=?_) (a':=?_) #[O,O,Z,Z,Z,Z,Z,Z,Z,Z] rfl rfl (any_of HT_.out (by kernel_rfl)) (fun _ _ _ h=>h) (Or.inl ⟨by rfl,?_⟩) ?_ ?_;rotate_left;(intro w';go_simp;with_reducible rfl);rotate_left;((try simp only [Act.put,E,U,G,i64_w,i32_w]);rfl)
        refine pure_ (i:=2) (N:=some 19) (v:=?_) (a':=?_) #[O,O,O,Z,Z,Z,Z,Z,Z,Z] rfl rfl (any_of HT_.out (by kernel_rfl)) (fun _ _ _ h=>h) (Or.inl ⟨by rfl,?_⟩) ?_ ?_;rotate_left;(intro w';go_simp;with_reducible rfl);rotate_left;((try simp only [Act.put,E,U,G,i64_w,i32_w]);rfl)
        refine pure_ (i:=4) (N:=some 21) (v:=?_) (a':=?_) #[O,O,O,Z,O,Z,Z,Z,Z,Z] rfl rfl (any_of HT_.out (by kernel_rfl)) (fun _ _ _ h=>h) (Or.inl ⟨by rfl,?_⟩) ?_ ?_;rotate_left;(intro w';go_simp;with_reducible rfl);rotate_left;((try simp only [Act.put,E,U,G,i64_w,i32_w]);rfl)
        refine pure_ (i:=5) (N:=some 22) (v:=?_) (a':=?_) #[O,O,O,Z,O,O,Z,Z,Z,Z] rfl rfl (any_of HT_.out (by kernel_rfl)) (fun _ _ _ h=>h) (Or.inl ⟨by rfl,?_⟩) ?_ ?_;rotate_left;(intro w';go_simp;with_reducible rfl);rotate_left;((try simp only [Act.put,E,U,G,i64_w,i32_w]);rfl)
        refine pure_ (i:=6) (N:=some 23) (v:=?_) (a':=?_) #[O,O,O,Z,O,O,O,Z,Z,Z] rfl rfl (any_of HT_.out (by kernel_rfl)) (fun _ _ _ h=>h) (Or.inl ⟨by rfl,?_⟩) ?_ ?_;rotate_left;(intro w';go_simp;with_reducible rfl);rotate_left;((try simp only [Act.put,E,U,G,i64_w,i32_w]);rfl)
        refine take_ (i:=3) (N:=some 20) (v:=?_) (a':=?_) #[O,O,O,O,O,O,O,Z,Z,Z] rfl rfl (take_ofW HT_.out HW_.out (by kernel_rfl)) (fun _ _ _ h=>h) (Or.inl ⟨by rfl,?_⟩) hHeld ?_ ?_;rotate_left;(rintro w' ⟨s0,s1⟩;go_simp;with_reducible rfl);rotate_left;((try simp only [Act.put,E,U,G,i64_w,i32_w]);rfl)
        refine take_ (i:=7) (N:=some 24) (v:=?_) (a':=?_) #[O,O,O,O,O,O,O,O,Z,Z] rfl rfl (take_ofW HT_.out HW_.out (by kernel_rfl)) (fun _ _ _ h=>h) (Or.inl ⟨by rfl,?_⟩) hHeld ?_ ?_;rotate_left;(rintro w' ⟨s0,s1⟩;go_simp;with_reducible rfl);rotate_left;((try simp only [Act.put,E,U,G,i64_w,i32_w]);rfl)
        refine one_ (i:=8) (N:=some 25) #[O,O,O,O,O,O,O,O,O,Z] rfl rfl (one_of HT_.out (by kernel_rfl)) (by decide) (fun K hK=>?_)
        refine goes_ Try.func23 (by kernel_rfl) rfl #[.slice A351_0 (rd_L5 l0 x5_1).length c351_0,.slice A352_0 (rd_L5 l1 x5_1).length c352_0] (by rfl) rfl rfl (by (try simp only [List.map_toArray,List.map_cons,List.map_nil]);first | done | rfl | (simp only [List.length_drop,List.length_take];rfl)) ?_
        with_reducible refine (laws_eqStmtS.calls k1 _ _ (rd_L5 l0 x5_1) _ _ (rd_L5 l1 x5_1) true _ ?side1 ?side2 ?side3 ?side4 A7.out).mono ?_
        (case side1=>repeat (first | exact (Kd.C_below HR351_0.out HB.out) | (with_reducible refine Kd.C_alloc ?_ _) | (with_reducible refine Kd.C_drewN ?_ _) | (with_reducible refine Kd.C_drew ?_)))
        (case side2=>exact HC351_0.out)
        (case side3=>repeat (first | exact (Kd.C_below HR352_0.out HB.out) | (with_reducible refine Kd.C_alloc ?_ _) | (with_reducible refine Kd.C_drewN ?_ _) | (with_reducible refine Kd.C_drew ?_)))
        (case side4=>exact HC352_0.out)
        rintro e w10 ⟨rfl,hb⟩
        refine ⟨_,rfl,?_⟩
        have n0_:=J (below_step (q0_ HB) hb)
        clear HB;have HB:=n0_;clear n0_
        refine hK.out _ _ ⟨((HB.out.cell (X w _ hw351_0)).trans hw351_0),((HB.out.cell (X w _ hw352_0)).trans hw352_0)⟩ (fun hHeld=>?_)
        clear hK K
        refine norm_ (a':=?_) ?_ ?_
        rotate_left
        ·show Act.put _ (some 25) _ = _
         simp only [Act.put,E,U,G,i64_w,i32_w]
         rfl
        refine pure_ (i:=9) (N:=some 26) (v:=?_) (a':=?_) #[O,O,O,O,O,O,O,O,O,O] rfl rfl (any_of HT_.out (by kernel_rfl)) (fun _ _ _ h=>h) (Or.inl ⟨by rfl,?_⟩) ?_ ?_;rotate_left;(intro w';go_simp;with_reducible rfl);rotate_left;((try simp only [Act.put,E,U,G,i64_w,i32_w]);rfl)
        refine done_ (done_of HT_.out (by kernel_rfl)) ?_
        try go_wp2
        go_roundg k1
        case measure=>have:=HK1.out;omega
        case rel=>exact ⟨(wrap64 (x5_1 + 1)),(by first | rfl | (simp;done) | (simp [*];done)),H',⟨by have:=HK1.out;omega⟩,⟨by repeat (first | (with_reducible first | exact HB.out | apply below_alloc | apply Y | apply below_drew1) | exact HB.out)⟩⟩
       ·replace c8:=Bool.eq_false_iff.mpr c8;subst c8
        have H1 : (some false) = some r:=by rw [if_neg (show ¬ (false = true) by decide)] at H;exact H
        clear H;have H:=H1;clear H1;obtain rfl:=Option.some.inj H
        try go_wp2
        have n0_:=J (below_drew1 HB.out);clear HB;have HB:=n0_;clear n0_
        have p351 : 0 ≤ (x5_1 : Int):=of_decide_eq_true (by first | (with_reducible assumption) | assumption)
        have q351 : x5_1 < (l0.length : Int):=of_decide_eq_true (by first | (with_reducible assumption) | assumption)
        obtain ⟨ad351,A351_0,c351_0,e351,hx351_0,hl351_0,hi351_0⟩:=at_L5 HR0.out x5_1 p351 q351;have hw351_0:=hx351_0
        cases e351
        replace hx351_0:=(HB.out.cell (X w _ hx351_0)).trans hx351_0;have HR351_0:=J hi351_0;have HC351_0:=J hl351_0;clear hi351_0 hl351_0;replace p351:=eq_true p351;replace q351:=eq_true q351
        have p352 : 0 ≤ (x5_1 : Int):=of_decide_eq_true (by first | (with_reducible assumption) | assumption)
        have q352 : x5_1 < (l1.length : Int):=of_decide_eq_true (by first | (with_reducible assumption) | assumption)
        obtain ⟨ad352,A352_0,c352_0,e352,hx352_0,hl352_0,hi352_0⟩:=at_L5 HR1.out x5_1 p352 q352;have hw352_0:=hx352_0
        cases e352
        replace hx352_0:=(HB.out.cell (X w _ hx352_0)).trans hx352_0;have HR352_0:=J hi352_0;have HC352_0:=J hl352_0;clear hi352_0 hl352_0;replace p352:=eq_true p352;replace q352:=eq_true q352
        refine start_ (n:=10) (S:=fun w'=>w'.cell? (ad351.add (x5_1).toNat) = some (.slice A351_0 (rd_L5 l0 x5_1).length c351_0) ∧ w'.cell? (ad352.add (x5_1).toNat) = some (.slice A352_0 (rd_L5 l1 x5_1).length c352_0)) (ds:=[]) #[Z,Z,Z,Z,Z,Z,Z,Z,Z,Z] (by kernel_rfl) rfl rfl ⟨((HB.out.cell (X w _ hw351_0)).trans hw351_0),((HB.out.cell (X w _ hw352_0)).trans hw352_0)⟩ (fun hHeld=>?_);refine with_tabW laws_eqStmtSS.tab6 laws_eqStmtSS.bits6 (fun HT_ HW_=>?_)
        generalize wr.drew = w11 at HB HR351_0 HR352_0 hx351_0 hx352_0 hHeld ⊢
        refine pure_ (i:=0) (N:=some 17) (v:=?_) (a':=?_) #[O,Z,Z,Z,Z,Z,Z,Z,Z,Z] rfl rfl (any_of HT_.out (by kernel_rfl)) (fun _ _ _ h=>h) (Or.inl ⟨by rfl,?_⟩) ?_ ?_;rotate_left;(intro w';go_simp;with_reducible rfl);rotate_left;((try simp only [Act.put,E,U,G,i64_w,i32_w]);rfl)
        refine pure_ (i:=1) (N:=some 18) (v:=?_) (a':=?_) #[O,O,Z,Z,Z,Z,Z,Z,Z,Z] rfl rfl (any_of HT_.out (by kernel_rfl)) (fun _ _ _ h=>h) (Or.inl ⟨by rfl,?_⟩) ?_ ?_;rotate_left;(intro w';go_simp;with_reducible rfl);rotate_left;((try simp only [Act.put,E,U,G,i64_w,i32_w]);rfl)
        refine pure_ (i:=2) (N:=some 19) (v:=?_) (a':=?_) #[O,O,O,Z,Z,Z,Z,Z,Z,Z] rfl rfl (any_of HT_.out (by kernel_rfl)) (fun _ _ _ h=>h) (Or.inl ⟨by rfl,?_⟩) ?_ ?_;rotate_left;(intro w';go_simp;with_reducible rfl);rotate_left;((try simp only [Act.put,E,U,G,i64_w,i32_w]);rfl)
        refine pure_ (i:=4) (N:=some 21) (v:=?_) (a':=?_) #[O,O,O,Z,O,Z,Z,Z,Z,Z] rfl rfl (any_of HT_.out (by kernel_rfl)) (fun _ _ _ h=>h) (Or.inl ⟨by rfl,?_⟩) ?_ ?_;rotate_left;(intro w';go_simp;with_reducible rfl);rotate_left;((try simp only [Act.put,E,U,G,i64_w,i32_w]);rfl)
        refine pure_ (i:=5) (N:=some 22) (v:=?_) (a':=?_) #[O,O,O,Z,O,O,Z,Z,Z,Z] rfl rfl (any_of HT_.out (by kernel_rfl)) (fun _ _ _ h=>h) (Or.inl ⟨by rfl,?_⟩) ?_ ?_;rotate_left;(intro w';go_simp;with_reducible rfl);rotate_left;((try simp only [Act.put,E,U,G,i64_w,i32_w]);rfl)
        refine pure_ (i:=6) (N:=some 23) (v:=?_) (a':=?_) #[O,O,O,Z,O,O,O,Z,Z,Z] rfl rfl (any_of HT_.out (by kernel_rfl)) (fun _ _ _ h=>h) (Or.inl ⟨by rfl,?_⟩) ?_ ?_;rotate_left;(intro w';go_simp;with_reducible rfl);rotate_left;((try simp only [Act.put,E,U,G,i64_w,i32_w]);rfl)
        refine take_ (i:=3) (N:=some 20) (v:=?_) (a':=?_) #[O,O,O,O,O,O,O,Z,Z,Z] rfl rfl (take_ofW HT_.out HW_.out (by kernel_rfl)) (fun _ _ _ h=>h) (Or.inl ⟨by rfl,?_⟩) hHeld ?_ ?_;rotate_left;(rintro w' ⟨s0,s1⟩;go_simp;with_reducible rfl);rotate_left;((try simp only [Act.put,E,U,G,i64_w,i32_w]);rfl)
        refine take_ (i:=7) (N:=some 24) (v:=?_) (a':=?_) #[O,O,O,O,O,O,O,O,Z,Z] rfl rfl (take_ofW HT_.out HW_.out (by kernel_rfl)) (fun _ _ _ h=>h) (Or.inl ⟨by rfl,?_⟩) hHeld ?_ ?_;rotate_left;(rintro w' ⟨s0,s1⟩;go_simp;with_reducible rfl);rotate_left;((try simp only [Act.put,E,U,G,i64_w,i32_w]);rfl)
        refine one_ (i:=8) (N:=some 25) #[O,O,O,O,O,O,O,O,O,Z] rfl rfl (one_of HT_.out (by kernel_rfl)) (by decide) (fun K hK=>?_)
        refine goes_ Try.func23 (by kernel_rfl) rfl #[.slice A351_0 (rd_L5 l0 x5_1).length c351_0,.slice A352_0 (rd_L5 l1 x5_1).length c352_0] (by rfl) rfl rfl (by (try simp only [List.map_toArray,List.map_cons,List.map_nil]);first | done | rfl | (simp only [List.length_drop,List.length_take];rfl)) ?_
        with_reducible refine (laws_eqStmtS.calls k1 _ _ (rd_L5 l0 x5_1) _ _ (rd_L5 l1 x5_1) false _ ?side1 ?side2 ?side3 ?side4 A7.out).mono ?_
        (case side1=>repeat (first | exact (Kd.C_below HR351_0.out HB.out) | (with_reducible refine Kd.C_alloc ?_ _) | (with_reducible refine Kd.C_drewN ?_ _) | (with_reducible refine Kd.C_drew ?_)))
        (case side2=>exact HC351_0.out)
        (case side3=>repeat (first | exact (Kd.C_below HR352_0.out HB.out) | (with_reducible refine Kd.C_alloc ?_ _) | (with_reducible refine Kd.C_drewN ?_ _) | (with_reducible refine Kd.C_drew ?_)))
        (case side4=>exact HC352_0.out)
        rintro e w12 ⟨rfl,hb⟩
        refine ⟨_,rfl,?_⟩
        have n0_:=J (below_step (q0_ HB) hb)
        clear HB;have HB:=n0_;clear n0_
        refine hK.out _ _ ⟨((HB.out.cell (X w _ hw351_0)).trans hw351_0),((HB.out.cell (X w _ hw352_0)).trans hw352_0)⟩ (fun hHeld=>?_)
        clear hK K
        refine norm_ (a':=?_) ?_ ?_
        rotate_left
        ·show Act.put _ (some 25) _ = _
         simp only [Act.put,E,U,G,i64_w,i32_w]
         rfl
        refine pure_ (i:=9) (N:=some 26) (v:=?_) (a':=?_) #[O,O,O,O,O,O,O,O,O,O] rfl rfl (any_of HT_.out (by kernel_rfl)) (fun _ _ _ h=>h) (Or.inl ⟨by rfl,?_⟩) ?_ ?_;rotate_left;(intro w';go_simp;with_reducible rfl);rotate_left;((try simp only [Act.put,E,U,G,i64_w,i32_w]);rfl)
        refine done_ (done_of HT_.out (by kernel_rfl)) ?_
        try go_wp2
        go_ret
        exact ⟨by first | rfl | (simp [errW_none,errW_some] <;> rfl) | (simp [*,errW_none,errW_some] <;> rfl),by repeat (first | (with_reducible first | exact HB.out | apply below_alloc | apply Y | apply below_drew1) | exact HB.out)⟩
      ·rw [if_neg c6] at H
       exact absurd H (by simp)
     ·rw [if_neg c5] at H
      exact absurd H (by simp)
    ·rw [if_neg c4] at H;have c4b0 : decide (x5_1 < (l0.length : Int)) = false:=decide_eq_false c4;clear c4;obtain rfl:=Option.some.inj H
     go_wp2
     go_ret
     exact ⟨by first | rfl | (simp [errW_none,errW_some] <;> rfl) | (simp [*,errW_none,errW_some] <;> rfl),by repeat (first | (with_reducible first | exact HB.out | apply below_alloc | apply Y | apply below_drew1) | exact HB.out)⟩
 ·rw [if_neg c3] at H;have c3b0 : ((l0.length : Int) == (l1.length : Int)) = false:=beq_eq_false_iff_ne.mpr c3;have c3b1 : ((l0.length : Int) != (l1.length : Int)) = true:=bne_iff_ne.mpr c3
  have c3b2 : (l0.length == l1.length) = false:=by first | simpa using c3 | (simp at c3 ⊢;omega)
  obtain rfl:=Option.some.inj H;go_enter Try.func9,Try.ntmps9
  go_wp2
  go_ret
  exact ⟨by first | rfl | (simp [errW_none,errW_some] <;> rfl) | (simp [*,errW_none,errW_some] <;> rfl),by repeat (first | (with_reducible first | exact HB.out | apply below_alloc | apply Y | apply below_drew1) | exact HB.out)⟩
end Go.Proofs.Ytdjkmnkgaacmfaa.P

namespace Go.Proofs.Ytdjkmnkgaacmfaa.P
open Go.RowKit Go.Proofs.YtdjkmnkgaacmfaaW.PrintWords Go.Proofs.YtdjkmnkgaacmfaaW.PrintLast Go.Proofs.YtdjkmnkgaacmfaaW.PrintMore
attribute [local go_sem] max2_int min2_int max_two min_two max_three min_three max_four min_four
set_option linter.unusedVariables false
set_option linter.unusedSimpArgs false
def laws_heldIntS.l0 : Nat → List Int → Int → Int → Option (Int)
 | 0,_,_,_=>none
 | k + 1,x0,x1,x5=>if x5 < (x0.length : Int) then (if 0 ≤ x5 then (if (rd x0 x5) = x1 then (laws_heldIntS.l0 k x0 (wrap64 (x1 + 1)) (wrap64 (x5 + 1))) else (some (-1))) else (none)) else (some x1)
def laws_heldIntS.f (k : Nat) (l0 : List Int) (a1 : Int) : Option (Int):=laws_heldIntS.l0 k l0 a1 0
set_option maxHeartbeats 8000000 in
set_option maxRecDepth 100000 in
theorem laws_heldIntS.calls (k : Nat) (A0 : Option Addr) (c0 : Nat) (l0 : List Int) (a1 : Int) (r : Int) (w : World) (hr0 : Kd.C (Kd.int .i64) w A0 l0.length l0) (hc0 : l0.length ≤ c0) (h : laws_heldIntS.f k l0 a1 = some r) :
  Calls Try.prog 30 #[.slice A0 l0.length c0,.int .i64 a1] w fun e w'=>e = .returned (.int .i64 r) ∧ Drawn0 w w':=by
 have HR0:=Aside0.mk hr0;have HC0:=Aside0.mk hc0;clear hr0 hc0;have H : (laws_heldIntS.l0 k l0 a1 0) = some r:=h;clear h;have H':=Aside0.mk H;clear H;go_enter Try.func30,Try.ntmps30
 go_wp2
 go_loopg [1,5] k (fun kq v1 v5 w'=>∃ (x1_1 : Int) (x5_1 : Int),v1 = .int .i64 x1_1 ∧ v5 = .int .i64 x5_1 ∧ Aside0 (laws_heldIntS.l0 kq l0 x1_1 x5_1 = some r) ∧ Aside0 (kq ≤ k) ∧ Drawn0 w w')
 case atStart=>exact ⟨(a1),(0),(by first | rfl | (simp;done) | (simp [*];done)),(by first | rfl | (simp;done) | (simp [*];done)),H',⟨Nat.le_refl _⟩,by repeat (first | exact Drawn0.refl _ | apply Drawn0.step)⟩
 case round =>
  clear H';(try clear p2);obtain ⟨x1_1,x5_1,rfl,rfl,HA,HK1,⟨m1,rfl⟩⟩:=hrel
  cases gk with
  | zero=>exact absurd HA.out (by simp [laws_heldIntS.l0])
  | succ k1 =>
   have H:=HA.out;clear HA;simp only [laws_heldIntS.l0] at H
   by_cases c3 : x5_1 < (l0.length : Int)
   ·rw [if_pos c3] at H;have c3b0 : decide (x5_1 < (l0.length : Int)) = true:=decide_eq_true c3;clear c3
    by_cases c4 : 0 ≤ x5_1
    ·rw [if_pos c4] at H;have c4b0 : decide (0 ≤ x5_1) = true:=decide_eq_true c4;clear c4
     by_cases c5 : (rd l0 x5_1) = x1_1
     ·rw [if_pos c5] at H;have c5b0 : ((rd l0 x5_1) == x1_1) = true:=beq_iff_eq.mpr c5;have c5b1 : ((rd l0 x5_1) != x1_1) = false:=bne_eq_false_iff_eq.mpr c5;clear c5;have H':=Aside0.mk H;clear H
      have p361 : 0 ≤ (x5_1 : Int):=of_decide_eq_true (by first | (with_reducible assumption) | assumption)
      have q361 : x5_1 < (l0.length : Int):=of_decide_eq_true (by first | (with_reducible assumption) | assumption)
      obtain ⟨ad361,e361,hx361_0⟩:=Kd.at_int HR0.out x5_1 p361 q361
      cases e361
      replace p361:=eq_true p361;replace q361:=eq_true q361
      go_wp2
      go_roundg k1
      case measure=>have:=HK1.out;omega
      case rel=>exact ⟨(wrap64 (x1_1 + 1)),(wrap64 (x5_1 + 1)),(by first | rfl | (simp;done) | (simp [*];done)),(by first | rfl | (simp;done) | (simp [*];done)),H',⟨by have:=HK1.out;omega⟩,by repeat (first | exact Drawn0.refl _ | apply Drawn0.step)⟩
     ·rw [if_neg c5] at H;have c5b0 : ((rd l0 x5_1) == x1_1) = false:=beq_eq_false_iff_ne.mpr c5;have c5b1 : ((rd l0 x5_1) != x1_1) = true:=bne_iff_ne.mpr c5;obtain rfl:=Option.some.inj H
      have p361 : 0 ≤ (x5_1 : Int):=of_decide_eq_true (by first | (with_reducible assumption) | assumption)
      have q361 : x5_1 < (l0.length : Int):=of_decide_eq_true (by first | (with_reducible assumption) | assumption)
      obtain ⟨ad361,e361,hx361_0⟩:=Kd.at_int HR0.out x5_1 p361 q361
      cases e361
      replace p361:=eq_true p361;replace q361:=eq_true q361
      go_wp2
      go_ret
      exact ⟨by first | rfl | (simp;done) | (simp [*];done),by repeat (first | exact Drawn0.refl _ | apply Drawn0.step)⟩
    ·rw [if_neg c4] at H
     exact absurd H (by simp)
   ·rw [if_neg c3] at H;have c3b0 : decide (x5_1 < (l0.length : Int)) = false:=decide_eq_false c3;clear c3;obtain rfl:=Option.some.inj H
    go_wp2
    go_ret
    exact ⟨by first | rfl | (simp;done) | (simp [*];done),by repeat (first | exact Drawn0.refl _ | apply Drawn0.step)⟩
def laws_heldIntSS.l0 : Nat → List (List Int) → Int → Int → Option (Int)
 | 0,_,_,_=>none
 | k + 1,x0,x1,x5=>if x5 < (x0.length : Int) then (if 0 ≤ x5 then ((laws_heldIntS.f k (rd_L3 x0 x5) x1).bind fun t378=>(if t378 < 0 then (some (-1)) else (laws_heldIntSS.l0 k x0 t378 (wrap64 (x5 + 1))))) else (none)) else (some x1)
def laws_heldIntSS.f (k : Nat) (l0 : List (List Int)) (a1 : Int) : Option (Int):=laws_heldIntSS.l0 k l0 a1 0
set_option maxHeartbeats 8000000 in
set_option maxRecDepth 100000 in
theorem laws_heldIntSS.calls (k : Nat) (A0 : Option Addr) (c0 : Nat) (l0 : List (List Int)) (a1 : Int) (r : Int) (w : World) (hr0 : Kd.C (Kd.slice 3 (Kd.int .i64)) w A0 l0.length l0) (hc0 : l0.length ≤ c0) (h : laws_heldIntSS.f k l0 a1 = some r) :
  Calls Try.prog 31 #[.slice A0 l0.length c0,.int .i64 a1] w fun e w'=>e = .returned (.int .i64 r) ∧ Drawn0 w w':=by
 have HR0:=Aside0.mk hr0;have HC0:=Aside0.mk hc0;clear hr0 hc0;have H : (laws_heldIntSS.l0 k l0 a1 0) = some r:=h;clear h;have H':=Aside0.mk H;clear H;go_enter Try.func31,Try.ntmps31
 go_wp2
 go_loopg [1,5] k (fun kq v1 v5 w'=>∃ (x1_1 : Int) (x5_1 : Int),v1 = .int .i64 x1_1 ∧ v5 = .int .i64 x5_1 ∧ Aside0 (laws_heldIntSS.l0 kq l0 x1_1 x5_1 = some r) ∧ Aside0 (kq ≤ k) ∧ Drawn0 w w')
 case atStart=>exact ⟨(a1),(0),(by first | rfl | (simp;done) | (simp [*];done)),(by first | rfl | (simp;done) | (simp [*];done)),H',⟨Nat.le_refl _⟩,by repeat (first | exact Drawn0.refl _ | apply Drawn0.step)⟩
 case round =>
  clear H';(try clear p2);obtain ⟨x1_1,x5_1,rfl,rfl,HA,HK1,⟨m1,rfl⟩⟩:=hrel
  cases gk with
  | zero=>exact absurd HA.out (by simp [laws_heldIntSS.l0])
  | succ k1 =>
   have H:=HA.out;clear HA;simp only [laws_heldIntSS.l0] at H
   by_cases c3 : x5_1 < (l0.length : Int)
   ·rw [if_pos c3] at H;have c3b0 : decide (x5_1 < (l0.length : Int)) = true:=decide_eq_true c3;clear c3
    by_cases c4 : 0 ≤ x5_1
    ·rw [if_pos c4] at H;have c4b0 : decide (0 ≤ x5_1) = true:=decide_eq_true c4;clear c4;replace H:=Option.bind_eq_some_iff.mp H;obtain ⟨t378,A50,H⟩:=H;replace H : (if t378 < 0 then (some (-1)) else (laws_heldIntSS.l0 k1 l0 t378 (wrap64 (x5_1 + 1)))) = some r:=H;have A5:=Aside0.mk A50;clear A50
     by_cases c6 : t378 < 0
     ·rw [if_pos c6] at H;have c6b0 : decide (t378 < 0) = true:=decide_eq_true c6;clear c6;obtain rfl:=Option.some.inj H
      have p377 : 0 ≤ (x5_1 : Int):=of_decide_eq_true (by first | (with_reducible assumption) | assumption)
      have q377 : x5_1 < (l0.length : Int):=of_decide_eq_true (by first | (with_reducible assumption) | assumption)
      obtain ⟨ad377,A377_0,c377_0,e377,hx377_0,hl377_0,hi377_0⟩:=at_L3 HR0.out x5_1 p377 q377
      cases e377
      have HR377_0:=Aside0.mk hi377_0;have HC377_0:=Aside0.mk hl377_0;clear hi377_0 hl377_0;replace p377:=eq_true p377;replace q377:=eq_true q377
      go_wp2_with (first | ((with_reducible refine gate_callee (f:=30) rfl ?_);refine goesM_ (some 17) Try.func30 #[.slice A377_0 (rd_L3 l0 x5_1).length c377_0,.int .i64 x1_1] ?_;(with_reducible refine (laws_heldIntS.calls k1 _ _ (rd_L3 l0 x5_1) x1_1 t378 _ ?side1 ?side2 A5.out).mono ?_);(case side1=>repeat (first | exact HR377_0.out | (with_reducible refine Kd.C_alloc ?_ _) | (with_reducible refine Kd.C_drewN ?_ _) | (with_reducible refine Kd.C_drew ?_)));(case side2=>exact HC377_0.out);rintro e w' ⟨rfl,⟨nd,rfl⟩⟩;refine ⟨_,rfl,?_⟩))
      go_ret
      exact ⟨by first | rfl | (simp;done) | (simp [*];done),by repeat (first | exact Drawn0.refl _ | apply Drawn0.step)⟩
     ·rw [if_neg c6] at H;have c6b0 : decide (t378 < 0) = false:=decide_eq_false c6;clear c6;have H':=Aside0.mk H;clear H
      have p377 : 0 ≤ (x5_1 : Int):=of_decide_eq_true (by first | (with_reducible assumption) | assumption)
      have q377 : x5_1 < (l0.length : Int):=of_decide_eq_true (by first | (with_reducible assumption) | assumption)
      obtain ⟨ad377,A377_0,c377_0,e377,hx377_0,hl377_0,hi377_0⟩:=at_L3 HR0.out x5_1 p377 q377
      cases e377
      have HR377_0:=Aside0.mk hi377_0;have HC377_0:=Aside0.mk hl377_0;clear hi377_0 hl377_0;replace p377:=eq_true p377;replace q377:=eq_true q377
      go_wp2_with (first | ((with_reducible refine gate_callee (f:=30) rfl ?_);refine goesM_ (some 17) Try.func30 #[.slice A377_0 (rd_L3 l0 x5_1).length c377_0,.int .i64 x1_1] ?_;(with_reducible refine (laws_heldIntS.calls k1 _ _ (rd_L3 l0 x5_1) x1_1 t378 _ ?side1 ?side2 A5.out).mono ?_);(case side1=>repeat (first | exact HR377_0.out | (with_reducible refine Kd.C_alloc ?_ _) | (with_reducible refine Kd.C_drewN ?_ _) | (with_reducible refine Kd.C_drew ?_)));(case side2=>exact HC377_0.out);rintro e w' ⟨rfl,⟨nd,rfl⟩⟩;refine ⟨_,rfl,?_⟩))
      go_roundg k1
      case measure=>have:=HK1.out;omega
      case rel=>exact ⟨(t378),(wrap64 (x5_1 + 1)),(by first | rfl | (simp;done) | (simp [*];done)),(by first | rfl | (simp;done) | (simp [*];done)),H',⟨by have:=HK1.out;omega⟩,by repeat (first | exact Drawn0.refl _ | apply Drawn0.step)⟩
    ·rw [if_neg c4] at H
     exact absurd H (by simp)
   ·rw [if_neg c3] at H;have c3b0 : decide (x5_1 < (l0.length : Int)) = false:=decide_eq_false c3;clear c3;obtain rfl:=Option.some.inj H
    go_wp2
    go_ret
    exact ⟨by first | rfl | (simp;done) | (simp [*];done),by repeat (first | exact Drawn0.refl _ | apply Drawn0.step)⟩
end Go.Proofs.Ytdjkmnkgaacmfaa.P

namespace Go.Proofs.Ytdjkmnkgaacmfaa.P
open Go.RowKit Go.Proofs.YtdjkmnkgaacmfaaW.PrintWords Go.Proofs.YtdjkmnkgaacmfaaW.PrintLast Go.Proofs.YtdjkmnkgaacmfaaW.PrintMore
open Go.Proofs.YtdjkmnkgaacmfaaW.PrintWords renaming Aside0.mk → O
open Option renaming some.inj → Z
open Go.RowKit renaming wrap64 → J
attribute [local go_sem] max2_int min2_int max_two min_two max_three min_three max_four min_four
set_option linter.unusedVariables false
set_option linter.unusedSimpArgs false
mutual
def laws_heldStmtS.l0 : Nat → List (S61) → Int → Int → Option (Int)
 | 0,_,_,_=>none
 | k + 1,x0,x1,x5=>if x5 < (x0.length : Int) then (if 0 ≤ x5 then (if ((rd_T61 x0 x5).f0) = x1 then (if ((rd_T61 x0 x5).f1) = (J (x1 + 1)) then (if ((rd_T61 x0 x5).f2) = (J ((J (x1 + 1)) + 1)) then (if ((rd_T61 x0 x5).f3) = (J ((J ((J (x1 + 1)) + 1)) + 1)) then ((laws_heldStmtS.f k ((rd_T61 x0 x5).f4) (J ((J ((J ((J (x1 + 1)) + 1)) + 1)) + 1))).bind fun t367=>(if t367 < 0 then (some (-1)) else ((laws_heldStmtS.f k ((rd_T61 x0 x5).f5) t367).bind fun t369=>(if t369 < 0 then (some (-1)) else (laws_heldStmtS.l0 k x0 t369 (J (x5 + 1))))))) else (some (-1))) else (some (-1))) else (some (-1))) else (some (-1))) else (none)) else (some x1)
def laws_heldStmtS.f : Nat → List (S61) → Int → Option (Int)
 | 0,_,_=>none
 | k + 1,l0,a1=>laws_heldStmtS.l0 k l0 a1 0
end
set_option maxHeartbeats 8000000 in
set_option maxRecDepth 100000 in
theorem laws_heldStmtS.calls (k : Nat) : ∀ (A0 : Option Addr) (c0 : Nat) (l0 : List (S61)) (a1 : Int) (r : Int) (w : World) (hr0 : Kd.C k61 w A0 l0.length l0) (hc0 : l0.length ≤ c0) (h : laws_heldStmtS.f k l0 a1 = some r),
  Calls Try.prog 45 #[.slice A0 l0.length c0,.int .i64 a1] w fun e w'=>e = .returned (.int .i64 r) ∧ Drawn0 w w':=by
 induction k using Nat.strongRecOn with
 | _ k ih =>
 intro A0 c0 l0 a1 r w hr0 hc0 h
 cases k with
 | zero=>exact absurd h (by simp [laws_heldStmtS.f])
 | succ k =>
 simp only [laws_heldStmtS.f] at h;have HR0:=O hr0;have HC0:=O hc0;clear hr0 hc0;have H : (laws_heldStmtS.l0 k l0 a1 0) = some r:=h;clear h;have H':=O H;clear H;go_enter Try.func45,Try.ntmps45
 go_wp2
 go_loopg [1,5] k (fun kq v1 v5 w'=>∃ (x1_1 : Int) (x5_1 : Int),v1 = .int .i64 x1_1 ∧ v5 = .int .i64 x5_1 ∧ Aside0 (laws_heldStmtS.l0 kq l0 x1_1 x5_1 = some r) ∧ Aside0 (kq ≤ k) ∧ Drawn0 w w')
 case atStart=>exact ⟨(a1),(0),(by first | rfl | (simp;done) | (simp [*];done)),(by first | rfl | (simp;done) | (simp [*];done)),H',⟨Nat.le_refl _⟩,by repeat (first | exact Drawn0.refl _ | apply Drawn0.step)⟩
 case round =>
  clear H';(try clear p2);obtain ⟨x1_1,x5_1,rfl,rfl,HA,HK1,⟨m1,rfl⟩⟩:=hrel
  cases gk with
  | zero=>exact absurd HA.out (by simp [laws_heldStmtS.l0])
  | succ k1 =>
   have H:=HA.out;clear HA;simp only [laws_heldStmtS.l0] at H
   by_cases c3 : x5_1 < (l0.length : Int)
   ·rw [if_pos c3] at H;have c3b0 : decide (x5_1 < (l0.length : Int)) = true:=decide_eq_true c3;clear c3
    by_cases c4 : 0 ≤ x5_1
    ·rw [if_pos c4] at H;have c4b0 : decide (0 ≤ x5_1) = true:=decide_eq_true c4;clear c4
     by_cases c5 : ((rd_T61 l0 x5_1).f0) = x1_1
     ·rw [if_pos c5] at H;have c5b0 : (((rd_T61 l0 x5_1).f0) == x1_1) = true:=beq_iff_eq.mpr c5;have c5b1 : (((rd_T61 l0 x5_1).f0) != x1_1) = false:=bne_eq_false_iff_eq.mpr c5;clear c5
      by_cases c6 : ((rd_T61 l0 x5_1).f1) = (J (x1_1 + 1))
      ·rw [if_pos c6] at H;have c6b0 : (((rd_T61 l0 x5_1).f1) == (J (x1_1 + 1))) = true:=beq_iff_eq.mpr c6;have c6b1 : (((rd_T61 l0 x5_1).f1) != (J (x1_1 + 1))) = false:=bne_eq_false_iff_eq.mpr c6;clear c6
       by_cases c7 : ((rd_T61 l0 x5_1).f2) = (J ((J (x1_1 + 1)) + 1))
       ·rw [if_pos c7] at H;have c7b0 : (((rd_T61 l0 x5_1).f2) == (J ((J (x1_1 + 1)) + 1))) = true:=beq_iff_eq.mpr c7;have c7b1 : (((rd_T61 l0 x5_1).f2) != (J ((J (x1_1 + 1)) + 1))) = false:=bne_eq_false_iff_eq.mpr c7;clear c7
        by_cases c8 : ((rd_T61 l0 x5_1).f3) = (J ((J ((J (x1_1 + 1)) + 1)) + 1))
        ·rw [if_pos c8] at H;have c8b0 : (((rd_T61 l0 x5_1).f3) == (J ((J ((J (x1_1 + 1)) + 1)) + 1))) = true:=beq_iff_eq.mpr c8;have c8b1 : (((rd_T61 l0 x5_1).f3) != (J ((J ((J (x1_1 + 1)) + 1)) + 1))) = false:=bne_eq_false_iff_eq.mpr c8;clear c8;replace H:=Option.bind_eq_some_iff.mp H;obtain ⟨t367,A90,H⟩:=H;replace H : (if t367 < 0 then (some (-1)) else ((laws_heldStmtS.f k1 ((rd_T61 l0 x5_1).f5) t367).bind fun t369=>(if t369 < 0 then (some (-1)) else (laws_heldStmtS.l0 k1 l0 t369 (J (x5_1 + 1)))))) = some r:=H;have A9:=O A90;clear A90
         by_cases c10 : t367 < 0
         ·rw [if_pos c10] at H;have c10b0 : decide (t367 < 0) = true:=decide_eq_true c10;clear c10;obtain rfl:=Z H
          have p362 : 0 ≤ (x5_1 : Int):=of_decide_eq_true (by first | (with_reducible assumption) | assumption)
          have q362 : x5_1 < (l0.length : Int):=of_decide_eq_true (by first | (with_reducible assumption) | assumption)
          obtain ⟨ad362,A362_4,c362_4,A362_5,c362_5,e362,hx362_0,hx362_1,hx362_2,hx362_3,hx362_4,hx362_5,hl362_4,hi362_4,hl362_5,hi362_5⟩:=at_T61 HR0.out x5_1 p362 q362
          cases e362
          have HR362_4:=O hi362_4;have HC362_4:=O hl362_4;clear hi362_4 hl362_4;have HR362_5:=O hi362_5;have HC362_5:=O hl362_5;clear hi362_5 hl362_5;replace p362:=eq_true p362;replace q362:=eq_true q362
          have p363 : 0 ≤ (x5_1 : Int):=of_decide_eq_true (by first | (with_reducible assumption) | assumption)
          have q363 : x5_1 < (l0.length : Int):=of_decide_eq_true (by first | (with_reducible assumption) | assumption)
          obtain ⟨ad363,A363_4,c363_4,A363_5,c363_5,e363,hx363_0,hx363_1,hx363_2,hx363_3,hx363_4,hx363_5,hl363_4,hi363_4,hl363_5,hi363_5⟩:=at_T61 HR0.out x5_1 p363 q363
          obtain rfl : ad362 = ad363:=(by injection e363)
          have HR363_4:=O hi363_4;have HC363_4:=O hl363_4;clear hi363_4 hl363_4;have HR363_5:=O hi363_5;have HC363_5:=O hl363_5;clear hi363_5 hl363_5;replace p363:=eq_true p363;replace q363:=eq_true q363;have ea_:=Z (hx362_4.symm.trans hx363_4)
          injection ea_ with ea_ en_ ec_
          subst ea_;subst ec_;clear en_;have ea_:=Z (hx362_5.symm.trans hx363_5)
          injection ea_ with ea_ en_ ec_
          subst ea_;subst ec_;clear en_
          have p364 : 0 ≤ (x5_1 : Int):=of_decide_eq_true (by first | (with_reducible assumption) | assumption)
          have q364 : x5_1 < (l0.length : Int):=of_decide_eq_true (by first | (with_reducible assumption) | assumption)
          obtain ⟨ad364,A364_4,c364_4,A364_5,c364_5,e364,hx364_0,hx364_1,hx364_2,hx364_3,hx364_4,hx364_5,hl364_4,hi364_4,hl364_5,hi364_5⟩:=at_T61 HR0.out x5_1 p364 q364
          obtain rfl : ad362 = ad364:=(by injection e364)
          have HR364_4:=O hi364_4;have HC364_4:=O hl364_4;clear hi364_4 hl364_4;have HR364_5:=O hi364_5;have HC364_5:=O hl364_5;clear hi364_5 hl364_5;replace p364:=eq_true p364;replace q364:=eq_true q364;have ea_:=Z (hx362_4.symm.trans hx364_4)
          injection ea_ with ea_ en_ ec_
          subst ea_;subst ec_;clear en_;have ea_:=Z (hx362_5.symm.trans hx364_5)
          injection ea_ with ea_ en_ ec_
          subst ea_;subst ec_;clear en_
          have p365 : 0 ≤ (x5_1 : Int):=of_decide_eq_true (by first | (with_reducible assumption) | assumption)
          have q365 : x5_1 < (l0.length : Int):=of_decide_eq_true (by first | (with_reducible assumption) | assumption)
          obtain ⟨ad365,A365_4,c365_4,A365_5,c365_5,e365,hx365_0,hx365_1,hx365_2,hx365_3,hx365_4,hx365_5,hl365_4,hi365_4,hl365_5,hi365_5⟩:=at_T61 HR0.out x5_1 p365 q365
          obtain rfl : ad362 = ad365:=(by injection e365)
          have HR365_4:=O hi365_4;have HC365_4:=O hl365_4;clear hi365_4 hl365_4;have HR365_5:=O hi365_5;have HC365_5:=O hl365_5;clear hi365_5 hl365_5;replace p365:=eq_true p365;replace q365:=eq_true q365;have ea_:=Z (hx362_4.symm.trans hx365_4)
          injection ea_ with ea_ en_ ec_
          subst ea_;subst ec_;clear en_;have ea_:=Z (hx362_5.symm.trans hx365_5)
          injection ea_ with ea_ en_ ec_
          subst ea_;subst ec_;clear en_
          have p366 : 0 ≤ (x5_1 : Int):=of_decide_eq_true (by first | (with_reducible assumption) | assumption)
          have q366 : x5_1 < (l0.length : Int):=of_decide_eq_true (by first | (with_reducible assumption) | assumption)
          obtain ⟨ad366,A366_4,c366_4,A366_5,c366_5,e366,hx366_0,hx366_1,hx366_2,hx366_3,hx366_4,hx366_5,hl366_4,hi366_4,hl366_5,hi366_5⟩:=at_T61 HR0.out x5_1 p366 q366
          obtain rfl : ad362 = ad366:=(by injection e366)
          have HR366_4:=O hi366_4;have HC366_4:=O hl366_4;clear hi366_4 hl366_4;have HR366_5:=O hi366_5;have HC366_5:=O hl366_5;clear hi366_5 hl366_5;replace p366:=eq_true p366;replace q366:=eq_true q366;have ea_:=Z (hx362_4.symm.trans hx366_4)
          injection ea_ with ea_ en_ ec_
          subst ea_;subst ec_;clear en_;have ea_:=Z (hx362_5.symm.trans hx366_5)
          injection ea_ with ea_ en_ ec_
          subst ea_;subst ec_;clear en_
          go_wp2_with (first | ((with_reducible refine gate_callee (f:=45) rfl ?_);refine goesM_ (some 54) Try.func45 #[.slice A362_4 ((rd_T61 l0 x5_1).f4).length c362_4,.int .i64 (J ((J ((J ((J (x1_1 + 1)) + 1)) + 1)) + 1))] ?_;(with_reducible refine (ih k1 (by have:=HK1.out;omega) _ _ ((rd_T61 l0 x5_1).f4) (J ((J ((J ((J (x1_1 + 1)) + 1)) + 1)) + 1)) t367 _ ?side1 ?side2 A9.out).mono ?_);(case side1=>repeat (first | exact HR366_4.out | (with_reducible refine Kd.C_alloc ?_ _) | (with_reducible refine Kd.C_drewN ?_ _) | (with_reducible refine Kd.C_drew ?_)));(case side2=>exact HC366_4.out);rintro e w' ⟨rfl,⟨nd,rfl⟩⟩;refine ⟨_,rfl,?_⟩))
          go_ret
          exact ⟨by first | rfl | (simp;done) | (simp [*];done),by repeat (first | exact Drawn0.refl _ | apply Drawn0.step)⟩
         ·rw [if_neg c10] at H;have c10b0 : decide (t367 < 0) = false:=decide_eq_false c10;clear c10;replace H:=Option.bind_eq_some_iff.mp H;obtain ⟨t369,A110,H⟩:=H;replace H : (if t369 < 0 then (some (-1)) else (laws_heldStmtS.l0 k1 l0 t369 (J (x5_1 + 1)))) = some r:=H;have A11:=O A110;clear A110
          by_cases c12 : t369 < 0
          ·rw [if_pos c12] at H;have c12b0 : decide (t369 < 0) = true:=decide_eq_true c12;clear c12;obtain rfl:=Z H
           have p362 : 0 ≤ (x5_1 : Int):=of_decide_eq_true (by first | (with_reducible assumption) | assumption)
           have q362 : x5_1 < (l0.length : Int):=of_decide_eq_true (by first | (with_reducible assumption) | assumption)
           obtain ⟨ad362,A362_4,c362_4,A362_5,c362_5,e362,hx362_0,hx362_1,hx362_2,hx362_3,hx362_4,hx362_5,hl362_4,hi362_4,hl362_5,hi362_5⟩:=at_T61 HR0.out x5_1 p362 q362
           cases e362
           have HR362_4:=O hi362_4;have HC362_4:=O hl362_4;clear hi362_4 hl362_4;have HR362_5:=O hi362_5;have HC362_5:=O hl362_5;clear hi362_5 hl362_5;replace p362:=eq_true p362;replace q362:=eq_true q362
           have p363 : 0 ≤ (x5_1 : Int):=of_decide_eq_true (by first | (with_reducible assumption) | assumption)
           have q363 : x5_1 < (l0.length : Int):=of_decide_eq_true (by first | (with_reducible assumption) | assumption)
           obtain ⟨ad363,A363_4,c363_4,A363_5,c363_5,e363,hx363_0,hx363_1,hx363_2,hx363_3,hx363_4,hx363_5,hl363_4,hi363_4,hl363_5,hi363_5⟩:=at_T61 HR0.out x5_1 p363 q363
           obtain rfl : ad362 = ad363:=(by injection e363)
           have HR363_4:=O hi363_4;have HC363_4:=O hl363_4;clear hi363_4 hl363_4;have HR363_5:=O hi363_5;have HC363_5:=O hl363_5;clear hi363_5 hl363_5;replace p363:=eq_true p363;replace q363:=eq_true q363;have ea_:=Z (hx362_4.symm.trans hx363_4)
           injection ea_ with ea_ en_ ec_
           subst ea_;subst ec_;clear en_;have ea_:=Z (hx362_5.symm.trans hx363_5)
           injection ea_ with ea_ en_ ec_
           subst ea_;subst ec_;clear en_
           have p364 : 0 ≤ (x5_1 : Int):=of_decide_eq_true (by first | (with_reducible assumption) | assumption)
           have q364 : x5_1 < (l0.length : Int):=of_decide_eq_true (by first | (with_reducible assumption) | assumption)
           obtain ⟨ad364,A364_4,c364_4,A364_5,c364_5,e364,hx364_0,hx364_1,hx364_2,hx364_3,hx364_4,hx364_5,hl364_4,hi364_4,hl364_5,hi364_5⟩:=at_T61 HR0.out x5_1 p364 q364
           obtain rfl : ad362 = ad364:=(by injection e364)
           have HR364_4:=O hi364_4;have HC364_4:=O hl364_4;clear hi364_4 hl364_4;have HR364_5:=O hi364_5;have HC364_5:=O hl364_5;clear hi364_5 hl364_5;replace p364:=eq_true p364;replace q364:=eq_true q364;have ea_:=Z (hx362_4.symm.trans hx364_4)
           injection ea_ with ea_ en_ ec_
           subst ea_;subst ec_;clear en_;have ea_:=Z (hx362_5.symm.trans hx364_5)
           injection ea_ with ea_ en_ ec_
           subst ea_;subst ec_;clear en_
           have p365 : 0 ≤ (x5_1 : Int):=of_decide_eq_true (by first | (with_reducible assumption) | assumption)
           have q365 : x5_1 < (l0.length : Int):=of_decide_eq_true (by first | (with_reducible assumption) | assumption)
           obtain ⟨ad365,A365_4,c365_4,A365_5,c365_5,e365,hx365_0,hx365_1,hx365_2,hx365_3,hx365_4,hx365_5,hl365_4,hi365_4,hl365_5,hi365_5⟩:=at_T61 HR0.out x5_1 p365 q365
           obtain rfl : ad362 = ad365:=(by injection e365)
           have HR365_4:=O hi365_4;have HC365_4:=O hl365_4;clear hi365_4 hl365_4;have HR365_5:=O hi365_5;have HC365_5:=O hl365_5;clear hi365_5 hl365_5;replace p365:=eq_true p365;replace q365:=eq_true q365;have ea_:=Z (hx362_4.symm.trans hx365_4)
           injection ea_ with ea_ en_ ec_
           subst ea_;subst ec_;clear en_;have ea_:=Z (hx362_5.symm.trans hx365_5)
           injection ea_ with ea_ en_ ec_
           subst ea_;subst ec_;clear en_
           have p366 : 0 ≤ (x5_1 : Int):=of_decide_eq_true (by first | (with_reducible assumption) | assumption)
           have q366 : x5_1 < (l0.length : Int):=of_decide_eq_true (by first | (with_reducible assumption) | assumption)
           obtain ⟨ad366,A366_4,c366_4,A366_5,c366_5,e366,hx366_0,hx366_1,hx366_2,hx366_3,hx366_4,hx366_5,hl366_4,hi366_4,hl366_5,hi366_5⟩:=at_T61 HR0.out x5_1 p366 q366
           obtain rfl : ad362 = ad366:=(by injection e366)
           have HR366_4:=O hi366_4;have HC366_4:=O hl366_4;clear hi366_4 hl366_4;have HR366_5:=O hi366_5;have HC366_5:=O hl366_5;clear hi366_5 hl366_5;replace p366:=eq_true p366;replace q366:=eq_true q366;have ea_:=Z (hx362_4.symm.trans hx366_4)
           injection ea_ with ea_ en_ ec_
           subst ea_;subst ec_;clear en_;have ea_:=Z (hx362_5.symm.trans hx366_5)
           injection ea_ with ea_ en_ ec_
           subst ea_;subst ec_;clear en_
           go_wp2_with (first | ((with_reducible refine gate_callee (f:=45) rfl ?_);refine goesM_ (some 54) Try.func45 #[.slice A362_4 ((rd_T61 l0 x5_1).f4).length c362_4,.int .i64 (J ((J ((J ((J (x1_1 + 1)) + 1)) + 1)) + 1))] ?_;(with_reducible refine (ih k1 (by have:=HK1.out;omega) _ _ ((rd_T61 l0 x5_1).f4) (J ((J ((J ((J (x1_1 + 1)) + 1)) + 1)) + 1)) t367 _ ?side1 ?side2 A9.out).mono ?_);(case side1=>repeat (first | exact HR366_4.out | (with_reducible refine Kd.C_alloc ?_ _) | (with_reducible refine Kd.C_drewN ?_ _) | (with_reducible refine Kd.C_drew ?_)));(case side2=>exact HC366_4.out);rintro e w' ⟨rfl,⟨nd,rfl⟩⟩;refine ⟨_,rfl,?_⟩;have p368 : 0 ≤ (x5_1 : Int):=of_decide_eq_true (by first | (with_reducible assumption) | assumption);have q368 : x5_1 < (l0.length : Int):=of_decide_eq_true (by first | (with_reducible assumption) | assumption);obtain ⟨ad368,A368_4,c368_4,A368_5,c368_5,e368,hx368_0,hx368_1,hx368_2,hx368_3,hx368_4,hx368_5,hl368_4,hi368_4,hl368_5,hi368_5⟩:=at_T61 HR0.out x5_1 p368 q368;obtain rfl : ad362 = ad368:=(by injection e368);have HR368_4:=O hi368_4;have HC368_4:=O hl368_4;clear hi368_4 hl368_4;have HR368_5:=O hi368_5;have HC368_5:=O hl368_5;clear hi368_5 hl368_5;replace p368:=eq_true p368;replace q368:=eq_true q368;have ea_:=Z (hx362_4.symm.trans hx368_4);injection ea_ with ea_ en_ ec_;subst ea_;subst ec_;clear en_;have ea_:=Z (hx362_5.symm.trans hx368_5);injection ea_ with ea_ en_ ec_;subst ea_;subst ec_;clear en_) | ((with_reducible refine gate_callee (f:=45) rfl ?_);refine goesM_ (some 63) Try.func45 #[.slice A362_5 ((rd_T61 l0 x5_1).f5).length c362_5,.int .i64 t367] ?_;(with_reducible refine (ih k1 (by have:=HK1.out;omega) _ _ ((rd_T61 l0 x5_1).f5) t367 t369 _ ?side1 ?side2 A11.out).mono ?_);(case side1=>repeat (first | exact HR368_5.out | (with_reducible refine Kd.C_alloc ?_ _) | (with_reducible refine Kd.C_drewN ?_ _) | (with_reducible refine Kd.C_drew ?_)));(case side2=>exact HC368_5.out);rintro e w' ⟨rfl,⟨nd,rfl⟩⟩;refine ⟨_,rfl,?_⟩))
           go_ret
           exact ⟨by first | rfl | (simp;done) | (simp [*];done),by repeat (first | exact Drawn0.refl _ | apply Drawn0.step)⟩
          ·rw [if_neg c12] at H;have c12b0 : decide (t369 < 0) = false:=decide_eq_false c12;clear c12;have H':=O H;clear H
           have p362 : 0 ≤ (x5_1 : Int):=of_decide_eq_true (by first | (with_reducible assumption) | assumption)
           have q362 : x5_1 < (l0.length : Int):=of_decide_eq_true (by first | (with_reducible assumption) | assumption)
           obtain ⟨ad362,A362_4,c362_4,A362_5,c362_5,e362,hx362_0,hx362_1,hx362_2,hx362_3,hx362_4,hx362_5,hl362_4,hi362_4,hl362_5,hi362_5⟩:=at_T61 HR0.out x5_1 p362 q362
           cases e362
           have HR362_4:=O hi362_4;have HC362_4:=O hl362_4;clear hi362_4 hl362_4;have HR362_5:=O hi362_5;have HC362_5:=O hl362_5;clear hi362_5 hl362_5;replace p362:=eq_true p362;replace q362:=eq_true q362
           have p363 : 0 ≤ (x5_1 : Int):=of_decide_eq_true (by first | (with_reducible assumption) | assumption)
           have q363 : x5_1 < (l0.length : Int):=of_decide_eq_true (by first | (with_reducible assumption) | assumption)
           obtain ⟨ad363,A363_4,c363_4,A363_5,c363_5,e363,hx363_0,hx363_1,hx363_2,hx363_3,hx363_4,hx363_5,hl363_4,hi363_4,hl363_5,hi363_5⟩:=at_T61 HR0.out x5_1 p363 q363
           obtain rfl : ad362 = ad363:=(by injection e363)
           have HR363_4:=O hi363_4;have HC363_4:=O hl363_4;clear hi363_4 hl363_4;have HR363_5:=O hi363_5;have HC363_5:=O hl363_5;clear hi363_5 hl363_5;replace p363:=eq_true p363;replace q363:=eq_true q363;have ea_:=Z (hx362_4.symm.trans hx363_4)
           injection ea_ with ea_ en_ ec_
           subst ea_;subst ec_;clear en_;have ea_:=Z (hx362_5.symm.trans hx363_5)
           injection ea_ with ea_ en_ ec_
           subst ea_;subst ec_;clear en_
           have p364 : 0 ≤ (x5_1 : Int):=of_decide_eq_true (by first | (with_reducible assumption) | assumption)
           have q364 : x5_1 < (l0.length : Int):=of_decide_eq_true (by first | (with_reducible assumption) | assumption)
           obtain ⟨ad364,A364_4,c364_4,A364_5,c364_5,e364,hx364_0,hx364_1,hx364_2,hx364_3,hx364_4,hx364_5,hl364_4,hi364_4,hl364_5,hi364_5⟩:=at_T61 HR0.out x5_1 p364 q364
           obtain rfl : ad362 = ad364:=(by injection e364)
           have HR364_4:=O hi364_4;have HC364_4:=O hl364_4;clear hi364_4 hl364_4;have HR364_5:=O hi364_5;have HC364_5:=O hl364_5;clear hi364_5 hl364_5;replace p364:=eq_true p364;replace q364:=eq_true q364;have ea_:=Z (hx362_4.symm.trans hx364_4)
           injection ea_ with ea_ en_ ec_
           subst ea_;subst ec_;clear en_;have ea_:=Z (hx362_5.symm.trans hx364_5)
           injection ea_ with ea_ en_ ec_
           subst ea_;subst ec_;clear en_
           have p365 : 0 ≤ (x5_1 : Int):=of_decide_eq_true (by first | (with_reducible assumption) | assumption)
           have q365 : x5_1 < (l0.length : Int):=of_decide_eq_true (by first | (with_reducible assumption) | assumption)
           obtain ⟨ad365,A365_4,c365_4,A365_5,c365_5,e365,hx365_0,hx365_1,hx365_2,hx365_3,hx365_4,hx365_5,hl365_4,hi365_4,hl365_5,hi365_5⟩:=at_T61 HR0.out x5_1 p365 q365
           obtain rfl : ad362 = ad365:=(by injection e365)
           have HR365_4:=O hi365_4;have HC365_4:=O hl365_4;clear hi365_4 hl365_4;have HR365_5:=O hi365_5;have HC365_5:=O hl365_5;clear hi365_5 hl365_5;replace p365:=eq_true p365;replace q365:=eq_true q365;have ea_:=Z (hx362_4.symm.trans hx365_4)
           injection ea_ with ea_ en_ ec_
           subst ea_;subst ec_;clear en_;have ea_:=Z (hx362_5.symm.trans hx365_5)
           injection ea_ with ea_ en_ ec_
           subst ea_;subst ec_;clear en_
           have p366 : 0 ≤ (x5_1 : Int):=of_decide_eq_true (by first | (with_reducible assumption) | assumption)
           have q366 : x5_1 < (l0.length : Int):=of_decide_eq_true (by first | (with_reducible assumption) | assumption)
           obtain ⟨ad366,A366_4,c366_4,A366_5,c366_5,e366,hx366_0,hx366_1,hx366_2,hx366_3,hx366_4,hx366_5,hl366_4,hi366_4,hl366_5,hi366_5⟩:=at_T61 HR0.out x5_1 p366 q366
           obtain rfl : ad362 = ad366:=(by injection e366)
           have HR366_4:=O hi366_4;have HC366_4:=O hl366_4;clear hi366_4 hl366_4;have HR366_5:=O hi366_5;have HC366_5:=O hl366_5;clear hi366_5 hl366_5;replace p366:=eq_true p366;replace q366:=eq_true q366;have ea_:=Z (hx362_4.symm.trans hx366_4)
           injection ea_ with ea_ en_ ec_
           subst ea_;subst ec_;clear en_;have ea_:=Z (hx362_5.symm.trans hx366_5)
           injection ea_ with ea_ en_ ec_
           subst ea_;subst ec_;clear en_
           go_wp2_with (first | ((with_reducible refine gate_callee (f:=45) rfl ?_);refine goesM_ (some 54) Try.func45 #[.slice A362_4 ((rd_T61 l0 x5_1).f4).length c362_4,.int .i64 (J ((J ((J ((J (x1_1 + 1)) + 1)) + 1)) + 1))] ?_;(with_reducible refine (ih k1 (by have:=HK1.out;omega) _ _ ((rd_T61 l0 x5_1).f4) (J ((J ((J ((J (x1_1 + 1)) + 1)) + 1)) + 1)) t367 _ ?side1 ?side2 A9.out).mono ?_);(case side1=>repeat (first | exact HR366_4.out | (with_reducible refine Kd.C_alloc ?_ _) | (with_reducible refine Kd.C_drewN ?_ _) | (with_reducible refine Kd.C_drew ?_)));(case side2=>exact HC366_4.out);rintro e w' ⟨rfl,⟨nd,rfl⟩⟩;refine ⟨_,rfl,?_⟩;have p368 : 0 ≤ (x5_1 : Int):=of_decide_eq_true (by first | (with_reducible assumption) | assumption);have q368 : x5_1 < (l0.length : Int):=of_decide_eq_true (by first | (with_reducible assumption) | assumption);obtain ⟨ad368,A368_4,c368_4,A368_5,c368_5,e368,hx368_0,hx368_1,hx368_2,hx368_3,hx368_4,hx368_5,hl368_4,hi368_4,hl368_5,hi368_5⟩:=at_T61 HR0.out x5_1 p368 q368;obtain rfl : ad362 = ad368:=(by injection e368);have HR368_4:=O hi368_4;have HC368_4:=O hl368_4;clear hi368_4 hl368_4;have HR368_5:=O hi368_5;have HC368_5:=O hl368_5;clear hi368_5 hl368_5;replace p368:=eq_true p368;replace q368:=eq_true q368;have ea_:=Z (hx362_4.symm.trans hx368_4);injection ea_ with ea_ en_ ec_;subst ea_;subst ec_;clear en_;have ea_:=Z (hx362_5.symm.trans hx368_5);injection ea_ with ea_ en_ ec_;subst ea_;subst ec_;clear en_) | ((with_reducible refine gate_callee (f:=45) rfl ?_);refine goesM_ (some 63) Try.func45 #[.slice A362_5 ((rd_T61 l0 x5_1).f5).length c362_5,.int .i64 t367] ?_;(with_reducible refine (ih k1 (by have:=HK1.out;omega) _ _ ((rd_T61 l0 x5_1).f5) t367 t369 _ ?side1 ?side2 A11.out).mono ?_);(case side1=>repeat (first | exact HR368_5.out | (with_reducible refine Kd.C_alloc ?_ _) | (with_reducible refine Kd.C_drewN ?_ _) | (with_reducible refine Kd.C_drew ?_)));(case side2=>exact HC368_5.out);rintro e w' ⟨rfl,⟨nd,rfl⟩⟩;refine ⟨_,rfl,?_⟩))
           go_roundg k1
           case measure=>have:=HK1.out;omega
           case rel=>exact ⟨(t369),(J (x5_1 + 1)),(by first | rfl | (simp;done) | (simp [*];done)),(by first | rfl | (simp;done) | (simp [*];done)),H',⟨by have:=HK1.out;omega⟩,by repeat (first | exact Drawn0.refl _ | apply Drawn0.step)⟩
        ·rw [if_neg c8] at H;have c8b0 : (((rd_T61 l0 x5_1).f3) == (J ((J ((J (x1_1 + 1)) + 1)) + 1))) = false:=beq_eq_false_iff_ne.mpr c8;have c8b1 : (((rd_T61 l0 x5_1).f3) != (J ((J ((J (x1_1 + 1)) + 1)) + 1))) = true:=bne_iff_ne.mpr c8;obtain rfl:=Z H
         have p362 : 0 ≤ (x5_1 : Int):=of_decide_eq_true (by first | (with_reducible assumption) | assumption)
         have q362 : x5_1 < (l0.length : Int):=of_decide_eq_true (by first | (with_reducible assumption) | assumption)
         obtain ⟨ad362,A362_4,c362_4,A362_5,c362_5,e362,hx362_0,hx362_1,hx362_2,hx362_3,hx362_4,hx362_5,hl362_4,hi362_4,hl362_5,hi362_5⟩:=at_T61 HR0.out x5_1 p362 q362
         cases e362
         have HR362_4:=O hi362_4;have HC362_4:=O hl362_4;clear hi362_4 hl362_4;have HR362_5:=O hi362_5;have HC362_5:=O hl362_5;clear hi362_5 hl362_5;replace p362:=eq_true p362;replace q362:=eq_true q362
         have p363 : 0 ≤ (x5_1 : Int):=of_decide_eq_true (by first | (with_reducible assumption) | assumption)
         have q363 : x5_1 < (l0.length : Int):=of_decide_eq_true (by first | (with_reducible assumption) | assumption)
         obtain ⟨ad363,A363_4,c363_4,A363_5,c363_5,e363,hx363_0,hx363_1,hx363_2,hx363_3,hx363_4,hx363_5,hl363_4,hi363_4,hl363_5,hi363_5⟩:=at_T61 HR0.out x5_1 p363 q363
         obtain rfl : ad362 = ad363:=(by injection e363)
         have HR363_4:=O hi363_4;have HC363_4:=O hl363_4;clear hi363_4 hl363_4;have HR363_5:=O hi363_5;have HC363_5:=O hl363_5;clear hi363_5 hl363_5;replace p363:=eq_true p363;replace q363:=eq_true q363;have ea_:=Z (hx362_4.symm.trans hx363_4)
         injection ea_ with ea_ en_ ec_
         subst ea_;subst ec_;clear en_;have ea_:=Z (hx362_5.symm.trans hx363_5)
         injection ea_ with ea_ en_ ec_
         subst ea_;subst ec_;clear en_
         have p364 : 0 ≤ (x5_1 : Int):=of_decide_eq_true (by first | (with_reducible assumption) | assumption)
         have q364 : x5_1 < (l0.length : Int):=of_decide_eq_true (by first | (with_reducible assumption) | assumption)
         obtain ⟨ad364,A364_4,c364_4,A364_5,c364_5,e364,hx364_0,hx364_1,hx364_2,hx364_3,hx364_4,hx364_5,hl364_4,hi364_4,hl364_5,hi364_5⟩:=at_T61 HR0.out x5_1 p364 q364
         obtain rfl : ad362 = ad364:=(by injection e364)
         have HR364_4:=O hi364_4;have HC364_4:=O hl364_4;clear hi364_4 hl364_4;have HR364_5:=O hi364_5;have HC364_5:=O hl364_5;clear hi364_5 hl364_5;replace p364:=eq_true p364;replace q364:=eq_true q364;have ea_:=Z (hx362_4.symm.trans hx364_4)
         injection ea_ with ea_ en_ ec_
         subst ea_;subst ec_;clear en_;have ea_:=Z (hx362_5.symm.trans hx364_5)
         injection ea_ with ea_ en_ ec_
         subst ea_;subst ec_;clear en_
         have p365 : 0 ≤ (x5_1 : Int):=of_decide_eq_true (by first | (with_reducible assumption) | assumption)
         have q365 : x5_1 < (l0.length : Int):=of_decide_eq_true (by first | (with_reducible assumption) | assumption)
         obtain ⟨ad365,A365_4,c365_4,A365_5,c365_5,e365,hx365_0,hx365_1,hx365_2,hx365_3,hx365_4,hx365_5,hl365_4,hi365_4,hl365_5,hi365_5⟩:=at_T61 HR0.out x5_1 p365 q365
         obtain rfl : ad362 = ad365:=(by injection e365)
         have HR365_4:=O hi365_4;have HC365_4:=O hl365_4;clear hi365_4 hl365_4;have HR365_5:=O hi365_5;have HC365_5:=O hl365_5;clear hi365_5 hl365_5;replace p365:=eq_true p365;replace q365:=eq_true q365;have ea_:=Z (hx362_4.symm.trans hx365_4)
         injection ea_ with ea_ en_ ec_
         subst ea_;subst ec_;clear en_;have ea_:=Z (hx362_5.symm.trans hx365_5)
         injection ea_ with ea_ en_ ec_
         subst ea_;subst ec_;clear en_
         go_wp2
         go_ret
         exact ⟨by first | rfl | (simp;done) | (simp [*];done),by repeat (first | exact Drawn0.refl _ | apply Drawn0.step)⟩
       ·rw [if_neg c7] at H;have c7b0 : (((rd_T61 l0 x5_1).f2) == (J ((J (x1_1 + 1)) + 1))) = false:=beq_eq_false_iff_ne.mpr c7;have c7b1 : (((rd_T61 l0 x5_1).f2) != (J ((J (x1_1 + 1)) + 1))) = true:=bne_iff_ne.mpr c7;obtain rfl:=Z H
        have p362 : 0 ≤ (x5_1 : Int):=of_decide_eq_true (by first | (with_reducible assumption) | assumption)
        have q362 : x5_1 < (l0.length : Int):=of_decide_eq_true (by first | (with_reducible assumption) | assumption)
        obtain ⟨ad362,A362_4,c362_4,A362_5,c362_5,e362,hx362_0,hx362_1,hx362_2,hx362_3,hx362_4,hx362_5,hl362_4,hi362_4,hl362_5,hi362_5⟩:=at_T61 HR0.out x5_1 p362 q362
        cases e362
        have HR362_4:=O hi362_4;have HC362_4:=O hl362_4;clear hi362_4 hl362_4;have HR362_5:=O hi362_5;have HC362_5:=O hl362_5;clear hi362_5 hl362_5;replace p362:=eq_true p362;replace q362:=eq_true q362
        have p363 : 0 ≤ (x5_1 : Int):=of_decide_eq_true (by first | (with_reducible assumption) | assumption)
        have q363 : x5_1 < (l0.length : Int):=of_decide_eq_true (by first | (with_reducible assumption) | assumption)
        obtain ⟨ad363,A363_4,c363_4,A363_5,c363_5,e363,hx363_0,hx363_1,hx363_2,hx363_3,hx363_4,hx363_5,hl363_4,hi363_4,hl363_5,hi363_5⟩:=at_T61 HR0.out x5_1 p363 q363
        obtain rfl : ad362 = ad363:=(by injection e363)
        have HR363_4:=O hi363_4;have HC363_4:=O hl363_4;clear hi363_4 hl363_4;have HR363_5:=O hi363_5;have HC363_5:=O hl363_5;clear hi363_5 hl363_5;replace p363:=eq_true p363;replace q363:=eq_true q363;have ea_:=Z (hx362_4.symm.trans hx363_4)
        injection ea_ with ea_ en_ ec_
        subst ea_;subst ec_;clear en_;have ea_:=Z (hx362_5.symm.trans hx363_5)
        injection ea_ with ea_ en_ ec_
        subst ea_;subst ec_;clear en_
        have p364 : 0 ≤ (x5_1 : Int):=of_decide_eq_true (by first | (with_reducible assumption) | assumption)
        have q364 : x5_1 < (l0.length : Int):=of_decide_eq_true (by first | (with_reducible assumption) | assumption)
        obtain ⟨ad364,A364_4,c364_4,A364_5,c364_5,e364,hx364_0,hx364_1,hx364_2,hx364_3,hx364_4,hx364_5,hl364_4,hi364_4,hl364_5,hi364_5⟩:=at_T61 HR0.out x5_1 p364 q364
        obtain rfl : ad362 = ad364:=(by injection e364)
        have HR364_4:=O hi364_4;have HC364_4:=O hl364_4;clear hi364_4 hl364_4;have HR364_5:=O hi364_5;have HC364_5:=O hl364_5;clear hi364_5 hl364_5;replace p364:=eq_true p364;replace q364:=eq_true q364;have ea_:=Z (hx362_4.symm.trans hx364_4)
        injection ea_ with ea_ en_ ec_
        subst ea_;subst ec_;clear en_;have ea_:=Z (hx362_5.symm.trans hx364_5)
        injection ea_ with ea_ en_ ec_
        subst ea_;subst ec_;clear en_
        go_wp2
        go_ret
        exact ⟨by first | rfl | (simp;done) | (simp [*];done),by repeat (first | exact Drawn0.refl _ | apply Drawn0.step)⟩
      ·rw [if_neg c6] at H;have c6b0 : (((rd_T61 l0 x5_1).f1) == (J (x1_1 + 1))) = false:=beq_eq_false_iff_ne.mpr c6;have c6b1 : (((rd_T61 l0 x5_1).f1) != (J (x1_1 + 1))) = true:=bne_iff_ne.mpr c6;obtain rfl:=Z H
       have p362 : 0 ≤ (x5_1 : Int):=of_decide_eq_true (by first | (with_reducible assumption) | assumption)
       have q362 : x5_1 < (l0.length : Int):=of_decide_eq_true (by first | (with_reducible assumption) | assumption)
       obtain ⟨ad362,A362_4,c362_4,A362_5,c362_5,e362,hx362_0,hx362_1,hx362_2,hx362_3,hx362_4,hx362_5,hl362_4,hi362_4,hl362_5,hi362_5⟩:=at_T61 HR0.out x5_1 p362 q362
       cases e362
       have HR362_4:=O hi362_4;have HC362_4:=O hl362_4;clear hi362_4 hl362_4;have HR362_5:=O hi362_5;have HC362_5:=O hl362_5;clear hi362_5 hl362_5;replace p362:=eq_true p362;replace q362:=eq_true q362
       have p363 : 0 ≤ (x5_1 : Int):=of_decide_eq_true (by first | (with_reducible assumption) | assumption)
       have q363 : x5_1 < (l0.length : Int):=of_decide_eq_true (by first | (with_reducible assumption) | assumption)
       obtain ⟨ad363,A363_4,c363_4,A363_5,c363_5,e363,hx363_0,hx363_1,hx363_2,hx363_3,hx363_4,hx363_5,hl363_4,hi363_4,hl363_5,hi363_5⟩:=at_T61 HR0.out x5_1 p363 q363
       obtain rfl : ad362 = ad363:=(by injection e363)
       have HR363_4:=O hi363_4;have HC363_4:=O hl363_4;clear hi363_4 hl363_4;have HR363_5:=O hi363_5;have HC363_5:=O hl363_5;clear hi363_5 hl363_5;replace p363:=eq_true p363;replace q363:=eq_true q363;have ea_:=Z (hx362_4.symm.trans hx363_4)
       injection ea_ with ea_ en_ ec_
       subst ea_;subst ec_;clear en_;have ea_:=Z (hx362_5.symm.trans hx363_5)
       injection ea_ with ea_ en_ ec_
       subst ea_;subst ec_;clear en_
       go_wp2
       go_ret
       exact ⟨by first | rfl | (simp;done) | (simp [*];done),by repeat (first | exact Drawn0.refl _ | apply Drawn0.step)⟩
     ·rw [if_neg c5] at H;have c5b0 : (((rd_T61 l0 x5_1).f0) == x1_1) = false:=beq_eq_false_iff_ne.mpr c5;have c5b1 : (((rd_T61 l0 x5_1).f0) != x1_1) = true:=bne_iff_ne.mpr c5;obtain rfl:=Z H
      have p362 : 0 ≤ (x5_1 : Int):=of_decide_eq_true (by first | (with_reducible assumption) | assumption)
      have q362 : x5_1 < (l0.length : Int):=of_decide_eq_true (by first | (with_reducible assumption) | assumption)
      obtain ⟨ad362,A362_4,c362_4,A362_5,c362_5,e362,hx362_0,hx362_1,hx362_2,hx362_3,hx362_4,hx362_5,hl362_4,hi362_4,hl362_5,hi362_5⟩:=at_T61 HR0.out x5_1 p362 q362
      cases e362
      have HR362_4:=O hi362_4;have HC362_4:=O hl362_4;clear hi362_4 hl362_4;have HR362_5:=O hi362_5;have HC362_5:=O hl362_5;clear hi362_5 hl362_5;replace p362:=eq_true p362;replace q362:=eq_true q362
      go_wp2
      go_ret
      exact ⟨by first | rfl | (simp;done) | (simp [*];done),by repeat (first | exact Drawn0.refl _ | apply Drawn0.step)⟩
    ·rw [if_neg c4] at H
     exact absurd H (by simp)
   ·rw [if_neg c3] at H;have c3b0 : decide (x5_1 < (l0.length : Int)) = false:=decide_eq_false c3;clear c3;obtain rfl:=Z H
    go_wp2
    go_ret
    exact ⟨by first | rfl | (simp;done) | (simp [*];done),by repeat (first | exact Drawn0.refl _ | apply Drawn0.step)⟩
end Go.Proofs.Ytdjkmnkgaacmfaa.P

namespace Go.Proofs.Ytdjkmnkgaacmfaa.P
open Go.RowKit Go.Proofs.YtdjkmnkgaacmfaaW.PrintWords Go.Proofs.YtdjkmnkgaacmfaaW.PrintLast Go.Proofs.YtdjkmnkgaacmfaaW.PrintMore
open Go.Proofs.YtdjkmnkgaacmfaaW.PrintWords renaming Aside0.mk → O
open Option renaming some.inj → Z
open Go.RowKit renaming wrap64 → J
attribute [local go_sem] max2_int min2_int max_two min_two max_three min_three max_four min_four
set_option linter.unusedVariables false
set_option linter.unusedSimpArgs false
def laws_heldProcS.l0 : Nat → List (S59) → Int → Int → Option (Int)
 | 0,_,_,_=>none
 | k + 1,x0,x1,x5=>if x5 < (x0.length : Int) then (if 0 ≤ x5 then ((laws_heldIntS.f k ((rd_T59 x0 x5).f0) x1).bind fun t371=>(if t371 < 0 then (some (-1)) else ((laws_heldStmtS.f k ((rd_T59 x0 x5).f1) t371).bind fun t373=>(if t373 < 0 then (some (-1)) else (if ((rd_T59 x0 x5).f2) = t373 then (if ((rd_T59 x0 x5).f3) = (J (t373 + 1)) then (if ((rd_T59 x0 x5).f4) = (J ((J (t373 + 1)) + 1)) then (laws_heldProcS.l0 k x0 (J ((J ((J (t373 + 1)) + 1)) + 1)) (J (x5 + 1))) else (some (-1))) else (some (-1))) else (some (-1))))))) else (none)) else (some x1)
def laws_heldProcS.f (k : Nat) (l0 : List (S59)) (a1 : Int) : Option (Int):=laws_heldProcS.l0 k l0 a1 0
set_option maxHeartbeats 8000000 in
set_option maxRecDepth 100000 in
theorem laws_heldProcS.calls (k : Nat) (A0 : Option Addr) (c0 : Nat) (l0 : List (S59)) (a1 : Int) (r : Int) (w : World) (hr0 : Kd.C k59 w A0 l0.length l0) (hc0 : l0.length ≤ c0) (h : laws_heldProcS.f k l0 a1 = some r) :
  Calls Try.prog 29 #[.slice A0 l0.length c0,.int .i64 a1] w fun e w'=>e = .returned (.int .i64 r) ∧ Drawn0 w w':=by
 have HR0:=O hr0;have HC0:=O hc0;clear hr0 hc0;have H : (laws_heldProcS.l0 k l0 a1 0) = some r:=h;clear h;have H':=O H;clear H;go_enter Try.func29,Try.ntmps29
 go_wp2
 go_loopg [1,5] k (fun kq v1 v5 w'=>∃ (x1_1 : Int) (x5_1 : Int),v1 = .int .i64 x1_1 ∧ v5 = .int .i64 x5_1 ∧ Aside0 (laws_heldProcS.l0 kq l0 x1_1 x5_1 = some r) ∧ Aside0 (kq ≤ k) ∧ Drawn0 w w')
 case atStart=>exact ⟨(a1),(0),(by first | rfl | (simp;done) | (simp [*];done)),(by first | rfl | (simp;done) | (simp [*];done)),H',⟨Nat.le_refl _⟩,by repeat (first | exact Drawn0.refl _ | apply Drawn0.step)⟩
 case round =>
  clear H';(try clear c2);(try clear p2);obtain ⟨x1_1,x5_1,rfl,rfl,HA,HK1,⟨m1,rfl⟩⟩:=hrel
  cases gk with
  | zero=>exact absurd HA.out (by simp [laws_heldProcS.l0])
  | succ k1 =>
   have H:=HA.out;clear HA;simp only [laws_heldProcS.l0] at H
   by_cases c3 : x5_1 < (l0.length : Int)
   ·rw [if_pos c3] at H;have c3b0 : decide (x5_1 < (l0.length : Int)) = true:=decide_eq_true c3;clear c3
    by_cases c4 : 0 ≤ x5_1
    ·rw [if_pos c4] at H;have c4b0 : decide (0 ≤ x5_1) = true:=decide_eq_true c4;clear c4;replace H:=Option.bind_eq_some_iff.mp H;obtain ⟨t371,A50,H⟩:=H;replace H : (if t371 < 0 then (some (-1)) else ((laws_heldStmtS.f k1 ((rd_T59 l0 x5_1).f1) t371).bind fun t373=>(if t373 < 0 then (some (-1)) else (if ((rd_T59 l0 x5_1).f2) = t373 then (if ((rd_T59 l0 x5_1).f3) = (J (t373 + 1)) then (if ((rd_T59 l0 x5_1).f4) = (J ((J (t373 + 1)) + 1)) then (laws_heldProcS.l0 k1 l0 (J ((J ((J (t373 + 1)) + 1)) + 1)) (J (x5_1 + 1))) else (some (-1))) else (some (-1))) else (some (-1)))))) = some r:=H;have A5:=O A50;clear A50
     by_cases c6 : t371 < 0
     ·rw [if_pos c6] at H;have c6b0 : decide (t371 < 0) = true:=decide_eq_true c6;clear c6;obtain rfl:=Z H
      have p370 : 0 ≤ (x5_1 : Int):=of_decide_eq_true (by first | (with_reducible assumption) | assumption)
      have q370 : x5_1 < (l0.length : Int):=of_decide_eq_true (by first | (with_reducible assumption) | assumption)
      obtain ⟨ad370,A370_0,c370_0,A370_1,c370_1,e370,hx370_0,hx370_1,hx370_2,hx370_3,hx370_4,hl370_0,hi370_0,hl370_1,hi370_1⟩:=at_T59 HR0.out x5_1 p370 q370
      cases e370
      have HR370_0:=O hi370_0;have HC370_0:=O hl370_0;clear hi370_0 hl370_0;have HR370_1:=O hi370_1;have HC370_1:=O hl370_1;clear hi370_1 hl370_1;replace p370:=eq_true p370;replace q370:=eq_true q370
      go_wp2_with (first | ((with_reducible refine gate_callee (f:=30) rfl ?_);refine goesM_ (some 18) Try.func30 #[.slice A370_0 ((rd_T59 l0 x5_1).f0).length c370_0,.int .i64 x1_1] ?_;(with_reducible refine (laws_heldIntS.calls k1 _ _ ((rd_T59 l0 x5_1).f0) x1_1 t371 _ ?side1 ?side2 A5.out).mono ?_);(case side1=>repeat (first | exact HR370_0.out | (with_reducible refine Kd.C_alloc ?_ _) | (with_reducible refine Kd.C_drewN ?_ _) | (with_reducible refine Kd.C_drew ?_)));(case side2=>exact HC370_0.out);rintro e w' ⟨rfl,⟨nd,rfl⟩⟩;refine ⟨_,rfl,?_⟩))
      go_ret
      exact ⟨by first | rfl | (simp;done) | (simp [*];done),by repeat (first | exact Drawn0.refl _ | apply Drawn0.step)⟩
     ·rw [if_neg c6] at H;have c6b0 : decide (t371 < 0) = false:=decide_eq_false c6;clear c6;replace H:=Option.bind_eq_some_iff.mp H;obtain ⟨t373,A70,H⟩:=H;replace H : (if t373 < 0 then (some (-1)) else (if ((rd_T59 l0 x5_1).f2) = t373 then (if ((rd_T59 l0 x5_1).f3) = (J (t373 + 1)) then (if ((rd_T59 l0 x5_1).f4) = (J ((J (t373 + 1)) + 1)) then (laws_heldProcS.l0 k1 l0 (J ((J ((J (t373 + 1)) + 1)) + 1)) (J (x5_1 + 1))) else (some (-1))) else (some (-1))) else (some (-1)))) = some r:=H;have A7:=O A70;clear A70
      by_cases c8 : t373 < 0
      ·rw [if_pos c8] at H;have c8b0 : decide (t373 < 0) = true:=decide_eq_true c8;clear c8;obtain rfl:=Z H
       have p370 : 0 ≤ (x5_1 : Int):=of_decide_eq_true (by first | (with_reducible assumption) | assumption)
       have q370 : x5_1 < (l0.length : Int):=of_decide_eq_true (by first | (with_reducible assumption) | assumption)
       obtain ⟨ad370,A370_0,c370_0,A370_1,c370_1,e370,hx370_0,hx370_1,hx370_2,hx370_3,hx370_4,hl370_0,hi370_0,hl370_1,hi370_1⟩:=at_T59 HR0.out x5_1 p370 q370
       cases e370
       have HR370_0:=O hi370_0;have HC370_0:=O hl370_0;clear hi370_0 hl370_0;have HR370_1:=O hi370_1;have HC370_1:=O hl370_1;clear hi370_1 hl370_1;replace p370:=eq_true p370;replace q370:=eq_true q370
       go_wp2_with (first | ((with_reducible refine gate_callee (f:=30) rfl ?_);refine goesM_ (some 18) Try.func30 #[.slice A370_0 ((rd_T59 l0 x5_1).f0).length c370_0,.int .i64 x1_1] ?_;(with_reducible refine (laws_heldIntS.calls k1 _ _ ((rd_T59 l0 x5_1).f0) x1_1 t371 _ ?side1 ?side2 A5.out).mono ?_);(case side1=>repeat (first | exact HR370_0.out | (with_reducible refine Kd.C_alloc ?_ _) | (with_reducible refine Kd.C_drewN ?_ _) | (with_reducible refine Kd.C_drew ?_)));(case side2=>exact HC370_0.out);rintro e w' ⟨rfl,⟨nd,rfl⟩⟩;refine ⟨_,rfl,?_⟩;have p372 : 0 ≤ (x5_1 : Int):=of_decide_eq_true (by first | (with_reducible assumption) | assumption);have q372 : x5_1 < (l0.length : Int):=of_decide_eq_true (by first | (with_reducible assumption) | assumption);obtain ⟨ad372,A372_0,c372_0,A372_1,c372_1,e372,hx372_0,hx372_1,hx372_2,hx372_3,hx372_4,hl372_0,hi372_0,hl372_1,hi372_1⟩:=at_T59 HR0.out x5_1 p372 q372;obtain rfl : ad370 = ad372:=(by injection e372);have HR372_0:=O hi372_0;have HC372_0:=O hl372_0;clear hi372_0 hl372_0;have HR372_1:=O hi372_1;have HC372_1:=O hl372_1;clear hi372_1 hl372_1;replace p372:=eq_true p372;replace q372:=eq_true q372;have ea_:=Z (hx370_0.symm.trans hx372_0);injection ea_ with ea_ en_ ec_;subst ea_;subst ec_;clear en_;have ea_:=Z (hx370_1.symm.trans hx372_1);injection ea_ with ea_ en_ ec_;subst ea_;subst ec_;clear en_) | ((with_reducible refine gate_callee (f:=45) rfl ?_);refine goesM_ (some 27) Try.func45 #[.slice A370_1 ((rd_T59 l0 x5_1).f1).length c370_1,.int .i64 t371] ?_;(with_reducible refine (laws_heldStmtS.calls k1 _ _ ((rd_T59 l0 x5_1).f1) t371 t373 _ ?side1 ?side2 A7.out).mono ?_);(case side1=>repeat (first | exact HR372_1.out | (with_reducible refine Kd.C_alloc ?_ _) | (with_reducible refine Kd.C_drewN ?_ _) | (with_reducible refine Kd.C_drew ?_)));(case side2=>exact HC372_1.out);rintro e w' ⟨rfl,⟨nd,rfl⟩⟩;refine ⟨_,rfl,?_⟩))
       go_ret
       exact ⟨by first | rfl | (simp;done) | (simp [*];done),by repeat (first | exact Drawn0.refl _ | apply Drawn0.step)⟩
      ·rw [if_neg c8] at H;have c8b0 : decide (t373 < 0) = false:=decide_eq_false c8;clear c8
       by_cases c9 : ((rd_T59 l0 x5_1).f2) = t373
       ·rw [if_pos c9] at H;have c9b0 : (((rd_T59 l0 x5_1).f2) == t373) = true:=beq_iff_eq.mpr c9;have c9b1 : (((rd_T59 l0 x5_1).f2) != t373) = false:=bne_eq_false_iff_eq.mpr c9;clear c9
        by_cases c10 : ((rd_T59 l0 x5_1).f3) = (J (t373 + 1))
        ·rw [if_pos c10] at H;have c10b0 : (((rd_T59 l0 x5_1).f3) == (J (t373 + 1))) = true:=beq_iff_eq.mpr c10;have c10b1 : (((rd_T59 l0 x5_1).f3) != (J (t373 + 1))) = false:=bne_eq_false_iff_eq.mpr c10;clear c10
         by_cases c11 : ((rd_T59 l0 x5_1).f4) = (J ((J (t373 + 1)) + 1))
         ·rw [if_pos c11] at H;have c11b0 : (((rd_T59 l0 x5_1).f4) == (J ((J (t373 + 1)) + 1))) = true:=beq_iff_eq.mpr c11;have c11b1 : (((rd_T59 l0 x5_1).f4) != (J ((J (t373 + 1)) + 1))) = false:=bne_eq_false_iff_eq.mpr c11;clear c11;have H':=O H;clear H
          have p370 : 0 ≤ (x5_1 : Int):=of_decide_eq_true (by first | (with_reducible assumption) | assumption)
          have q370 : x5_1 < (l0.length : Int):=of_decide_eq_true (by first | (with_reducible assumption) | assumption)
          obtain ⟨ad370,A370_0,c370_0,A370_1,c370_1,e370,hx370_0,hx370_1,hx370_2,hx370_3,hx370_4,hl370_0,hi370_0,hl370_1,hi370_1⟩:=at_T59 HR0.out x5_1 p370 q370
          cases e370
          have HR370_0:=O hi370_0;have HC370_0:=O hl370_0;clear hi370_0 hl370_0;have HR370_1:=O hi370_1;have HC370_1:=O hl370_1;clear hi370_1 hl370_1;replace p370:=eq_true p370;replace q370:=eq_true q370
          go_wp2_with (first | ((with_reducible refine gate_callee (f:=30) rfl ?_);refine goesM_ (some 18) Try.func30 #[.slice A370_0 ((rd_T59 l0 x5_1).f0).length c370_0,.int .i64 x1_1] ?_;(with_reducible refine (laws_heldIntS.calls k1 _ _ ((rd_T59 l0 x5_1).f0) x1_1 t371 _ ?side1 ?side2 A5.out).mono ?_);(case side1=>repeat (first | exact HR370_0.out | (with_reducible refine Kd.C_alloc ?_ _) | (with_reducible refine Kd.C_drewN ?_ _) | (with_reducible refine Kd.C_drew ?_)));(case side2=>exact HC370_0.out);rintro e w' ⟨rfl,⟨nd,rfl⟩⟩;refine ⟨_,rfl,?_⟩;have p372 : 0 ≤ (x5_1 : Int):=of_decide_eq_true (by first | (with_reducible assumption) | assumption);have q372 : x5_1 < (l0.length : Int):=of_decide_eq_true (by first | (with_reducible assumption) | assumption);obtain ⟨ad372,A372_0,c372_0,A372_1,c372_1,e372,hx372_0,hx372_1,hx372_2,hx372_3,hx372_4,hl372_0,hi372_0,hl372_1,hi372_1⟩:=at_T59 HR0.out x5_1 p372 q372;obtain rfl : ad370 = ad372:=(by injection e372);have HR372_0:=O hi372_0;have HC372_0:=O hl372_0;clear hi372_0 hl372_0;have HR372_1:=O hi372_1;have HC372_1:=O hl372_1;clear hi372_1 hl372_1;replace p372:=eq_true p372;replace q372:=eq_true q372;have ea_:=Z (hx370_0.symm.trans hx372_0);injection ea_ with ea_ en_ ec_;subst ea_;subst ec_;clear en_;have ea_:=Z (hx370_1.symm.trans hx372_1);injection ea_ with ea_ en_ ec_;subst ea_;subst ec_;clear en_) | ((with_reducible refine gate_callee (f:=45) rfl ?_);refine goesM_ (some 27) Try.func45 #[.slice A370_1 ((rd_T59 l0 x5_1).f1).length c370_1,.int .i64 t371] ?_;(with_reducible refine (laws_heldStmtS.calls k1 _ _ ((rd_T59 l0 x5_1).f1) t371 t373 _ ?side1 ?side2 A7.out).mono ?_);(case side1=>repeat (first | exact HR372_1.out | (with_reducible refine Kd.C_alloc ?_ _) | (with_reducible refine Kd.C_drewN ?_ _) | (with_reducible refine Kd.C_drew ?_)));(case side2=>exact HC372_1.out);rintro e w' ⟨rfl,⟨nd,rfl⟩⟩;refine ⟨_,rfl,?_⟩;have p374 : 0 ≤ (x5_1 : Int):=of_decide_eq_true (by first | (with_reducible assumption) | assumption);have q374 : x5_1 < (l0.length : Int):=of_decide_eq_true (by first | (with_reducible assumption) | assumption);obtain ⟨ad374,A374_0,c374_0,A374_1,c374_1,e374,hx374_0,hx374_1,hx374_2,hx374_3,hx374_4,hl374_0,hi374_0,hl374_1,hi374_1⟩:=at_T59 HR0.out x5_1 p374 q374;obtain rfl : ad370 = ad374:=(by injection e374);have HR374_0:=O hi374_0;have HC374_0:=O hl374_0;clear hi374_0 hl374_0;have HR374_1:=O hi374_1;have HC374_1:=O hl374_1;clear hi374_1 hl374_1;replace p374:=eq_true p374;replace q374:=eq_true q374;have ea_:=Z (hx370_0.symm.trans hx374_0);injection ea_ with ea_ en_ ec_;subst ea_;subst ec_;clear en_;have ea_:=Z (hx370_1.symm.trans hx374_1);injection ea_ with ea_ en_ ec_;subst ea_;subst ec_;clear en_;have p375 : 0 ≤ (x5_1 : Int):=of_decide_eq_true (by first | (with_reducible assumption) | assumption);have q375 : x5_1 < (l0.length : Int):=of_decide_eq_true (by first | (with_reducible assumption) | assumption);obtain ⟨ad375,A375_0,c375_0,A375_1,c375_1,e375,hx375_0,hx375_1,hx375_2,hx375_3,hx375_4,hl375_0,hi375_0,hl375_1,hi375_1⟩:=at_T59 HR0.out x5_1 p375 q375;obtain rfl : ad370 = ad375:=(by injection e375);have HR375_0:=O hi375_0;have HC375_0:=O hl375_0;clear hi375_0 hl375_0;have HR375_1:=O hi375_1;have HC375_1:=O hl375_1;clear hi375_1 hl375_1;replace p375:=eq_true p375;replace q375:=eq_true q375;have ea_:=Z (hx370_0.symm.trans hx375_0);injection ea_ with ea_ en_ ec_;subst ea_;subst ec_;clear en_;have ea_:=Z (hx370_1.symm.trans hx375_1);injection ea_ with ea_ en_ ec_;subst ea_;subst ec_;clear en_;have p376 : 0 ≤ (x5_1 : Int):=of_decide_eq_true (by first | (with_reducible assumption) | assumption);have q376 : x5_1 < (l0.length : Int):=of_decide_eq_true (by first | (with_reducible assumption) | assumption);obtain ⟨ad376,A376_0,c376_0,A376_1,c376_1,e376,hx376_0,hx376_1,hx376_2,hx376_3,hx376_4,hl376_0,hi376_0,hl376_1,hi376_1⟩:=at_T59 HR0.out x5_1 p376 q376;obtain rfl : ad370 = ad376:=(by injection e376);have HR376_0:=O hi376_0;have HC376_0:=O hl376_0;clear hi376_0 hl376_0;have HR376_1:=O hi376_1;have HC376_1:=O hl376_1;clear hi376_1 hl376_1;replace p376:=eq_true p376;replace q376:=eq_true q376;have ea_:=Z (hx370_0.symm.trans hx376_0);injection ea_ with ea_ en_ ec_;subst ea_;subst ec_;clear en_;have ea_:=Z (hx370_1.symm.trans hx376_1);injection ea_ with ea_ en_ ec_;subst ea_;subst ec_;clear en_))
          go_roundg k1
          case measure=>have:=HK1.out;omega
          case rel=>exact ⟨(J ((J ((J (t373 + 1)) + 1)) + 1)),(J (x5_1 + 1)),(by first | rfl | (simp;done) | (simp [*];done)),(by first | rfl | (simp;done) | (simp [*];done)),H',⟨by have:=HK1.out;omega⟩,by repeat (first | exact Drawn0.refl _ | apply Drawn0.step)⟩
         ·rw [if_neg c11] at H;have c11b0 : (((rd_T59 l0 x5_1).f4) == (J ((J (t373 + 1)) + 1))) = false:=beq_eq_false_iff_ne.mpr c11;have c11b1 : (((rd_T59 l0 x5_1).f4) != (J ((J (t373 + 1)) + 1))) = true:=bne_iff_ne.mpr c11;obtain rfl:=Z H
          have p370 : 0 ≤ (x5_1 : Int):=of_decide_eq_true (by first | (with_reducible assumption) | assumption)
          have q370 : x5_1 < (l0.length : Int):=of_decide_eq_true (by first | (with_reducible assumption) | assumption)
          obtain ⟨ad370,A370_0,c370_0,A370_1,c370_1,e370,hx370_0,hx370_1,hx370_2,hx370_3,hx370_4,hl370_0,hi370_0,hl370_1,hi370_1⟩:=at_T59 HR0.out x5_1 p370 q370
          cases e370
          have HR370_0:=O hi370_0;have HC370_0:=O hl370_0;clear hi370_0 hl370_0;have HR370_1:=O hi370_1;have HC370_1:=O hl370_1;clear hi370_1 hl370_1;replace p370:=eq_true p370;replace q370:=eq_true q370
          go_wp2_with (first | ((with_reducible refine gate_callee (f:=30) rfl ?_);refine goesM_ (some 18) Try.func30 #[.slice A370_0 ((rd_T59 l0 x5_1).f0).length c370_0,.int .i64 x1_1] ?_;(with_reducible refine (laws_heldIntS.calls k1 _ _ ((rd_T59 l0 x5_1).f0) x1_1 t371 _ ?side1 ?side2 A5.out).mono ?_);(case side1=>repeat (first | exact HR370_0.out | (with_reducible refine Kd.C_alloc ?_ _) | (with_reducible refine Kd.C_drewN ?_ _) | (with_reducible refine Kd.C_drew ?_)));(case side2=>exact HC370_0.out);rintro e w' ⟨rfl,⟨nd,rfl⟩⟩;refine ⟨_,rfl,?_⟩;have p372 : 0 ≤ (x5_1 : Int):=of_decide_eq_true (by first | (with_reducible assumption) | assumption);have q372 : x5_1 < (l0.length : Int):=of_decide_eq_true (by first | (with_reducible assumption) | assumption);obtain ⟨ad372,A372_0,c372_0,A372_1,c372_1,e372,hx372_0,hx372_1,hx372_2,hx372_3,hx372_4,hl372_0,hi372_0,hl372_1,hi372_1⟩:=at_T59 HR0.out x5_1 p372 q372;obtain rfl : ad370 = ad372:=(by injection e372);have HR372_0:=O hi372_0;have HC372_0:=O hl372_0;clear hi372_0 hl372_0;have HR372_1:=O hi372_1;have HC372_1:=O hl372_1;clear hi372_1 hl372_1;replace p372:=eq_true p372;replace q372:=eq_true q372;have ea_:=Z (hx370_0.symm.trans hx372_0);injection ea_ with ea_ en_ ec_;subst ea_;subst ec_;clear en_;have ea_:=Z (hx370_1.symm.trans hx372_1);injection ea_ with ea_ en_ ec_;subst ea_;subst ec_;clear en_) | ((with_reducible refine gate_callee (f:=45) rfl ?_);refine goesM_ (some 27) Try.func45 #[.slice A370_1 ((rd_T59 l0 x5_1).f1).length c370_1,.int .i64 t371] ?_;(with_reducible refine (laws_heldStmtS.calls k1 _ _ ((rd_T59 l0 x5_1).f1) t371 t373 _ ?side1 ?side2 A7.out).mono ?_);(case side1=>repeat (first | exact HR372_1.out | (with_reducible refine Kd.C_alloc ?_ _) | (with_reducible refine Kd.C_drewN ?_ _) | (with_reducible refine Kd.C_drew ?_)));(case side2=>exact HC372_1.out);rintro e w' ⟨rfl,⟨nd,rfl⟩⟩;refine ⟨_,rfl,?_⟩;have p374 : 0 ≤ (x5_1 : Int):=of_decide_eq_true (by first | (with_reducible assumption) | assumption);have q374 : x5_1 < (l0.length : Int):=of_decide_eq_true (by first | (with_reducible assumption) | assumption);obtain ⟨ad374,A374_0,c374_0,A374_1,c374_1,e374,hx374_0,hx374_1,hx374_2,hx374_3,hx374_4,hl374_0,hi374_0,hl374_1,hi374_1⟩:=at_T59 HR0.out x5_1 p374 q374;obtain rfl : ad370 = ad374:=(by injection e374);have HR374_0:=O hi374_0;have HC374_0:=O hl374_0;clear hi374_0 hl374_0;have HR374_1:=O hi374_1;have HC374_1:=O hl374_1;clear hi374_1 hl374_1;replace p374:=eq_true p374;replace q374:=eq_true q374;have ea_:=Z (hx370_0.symm.trans hx374_0);injection ea_ with ea_ en_ ec_;subst ea_;subst ec_;clear en_;have ea_:=Z (hx370_1.symm.trans hx374_1);injection ea_ with ea_ en_ ec_;subst ea_;subst ec_;clear en_;have p375 : 0 ≤ (x5_1 : Int):=of_decide_eq_true (by first | (with_reducible assumption) | assumption);have q375 : x5_1 < (l0.length : Int):=of_decide_eq_true (by first | (with_reducible assumption) | assumption);obtain ⟨ad375,A375_0,c375_0,A375_1,c375_1,e375,hx375_0,hx375_1,hx375_2,hx375_3,hx375_4,hl375_0,hi375_0,hl375_1,hi375_1⟩:=at_T59 HR0.out x5_1 p375 q375;obtain rfl : ad370 = ad375:=(by injection e375);have HR375_0:=O hi375_0;have HC375_0:=O hl375_0;clear hi375_0 hl375_0;have HR375_1:=O hi375_1;have HC375_1:=O hl375_1;clear hi375_1 hl375_1;replace p375:=eq_true p375;replace q375:=eq_true q375;have ea_:=Z (hx370_0.symm.trans hx375_0);injection ea_ with ea_ en_ ec_;subst ea_;subst ec_;clear en_;have ea_:=Z (hx370_1.symm.trans hx375_1);injection ea_ with ea_ en_ ec_;subst ea_;subst ec_;clear en_;have p376 : 0 ≤ (x5_1 : Int):=of_decide_eq_true (by first | (with_reducible assumption) | assumption);have q376 : x5_1 < (l0.length : Int):=of_decide_eq_true (by first | (with_reducible assumption) | assumption);obtain ⟨ad376,A376_0,c376_0,A376_1,c376_1,e376,hx376_0,hx376_1,hx376_2,hx376_3,hx376_4,hl376_0,hi376_0,hl376_1,hi376_1⟩:=at_T59 HR0.out x5_1 p376 q376;obtain rfl : ad370 = ad376:=(by injection e376);have HR376_0:=O hi376_0;have HC376_0:=O hl376_0;clear hi376_0 hl376_0;have HR376_1:=O hi376_1;have HC376_1:=O hl376_1;clear hi376_1 hl376_1;replace p376:=eq_true p376;replace q376:=eq_true q376;have ea_:=Z (hx370_0.symm.trans hx376_0);injection ea_ with ea_ en_ ec_;subst ea_;subst ec_;clear en_;have ea_:=Z (hx370_1.symm.trans hx376_1);injection ea_ with ea_ en_ ec_;subst ea_;subst ec_;clear en_))
          go_ret
          exact ⟨by first | rfl | (simp;done) | (simp [*];done),by repeat (first | exact Drawn0.refl _ | apply Drawn0.step)⟩
        ·rw [if_neg c10] at H;have c10b0 : (((rd_T59 l0 x5_1).f3) == (J (t373 + 1))) = false:=beq_eq_false_iff_ne.mpr c10;have c10b1 : (((rd_T59 l0 x5_1).f3) != (J (t373 + 1))) = true:=bne_iff_ne.mpr c10;obtain rfl:=Z H
         have p370 : 0 ≤ (x5_1 : Int):=of_decide_eq_true (by first | (with_reducible assumption) | assumption)
         have q370 : x5_1 < (l0.length : Int):=of_decide_eq_true (by first | (with_reducible assumption) | assumption)
         obtain ⟨ad370,A370_0,c370_0,A370_1,c370_1,e370,hx370_0,hx370_1,hx370_2,hx370_3,hx370_4,hl370_0,hi370_0,hl370_1,hi370_1⟩:=at_T59 HR0.out x5_1 p370 q370
         cases e370
         have HR370_0:=O hi370_0;have HC370_0:=O hl370_0;clear hi370_0 hl370_0;have HR370_1:=O hi370_1;have HC370_1:=O hl370_1;clear hi370_1 hl370_1;replace p370:=eq_true p370;replace q370:=eq_true q370
         go_wp2_with (first | ((with_reducible refine gate_callee (f:=30) rfl ?_);refine goesM_ (some 18) Try.func30 #[.slice A370_0 ((rd_T59 l0 x5_1).f0).length c370_0,.int .i64 x1_1] ?_;(with_reducible refine (laws_heldIntS.calls k1 _ _ ((rd_T59 l0 x5_1).f0) x1_1 t371 _ ?side1 ?side2 A5.out).mono ?_);(case side1=>repeat (first | exact HR370_0.out | (with_reducible refine Kd.C_alloc ?_ _) | (with_reducible refine Kd.C_drewN ?_ _) | (with_reducible refine Kd.C_drew ?_)));(case side2=>exact HC370_0.out);rintro e w' ⟨rfl,⟨nd,rfl⟩⟩;refine ⟨_,rfl,?_⟩;have p372 : 0 ≤ (x5_1 : Int):=of_decide_eq_true (by first | (with_reducible assumption) | assumption);have q372 : x5_1 < (l0.length : Int):=of_decide_eq_true (by first | (with_reducible assumption) | assumption);obtain ⟨ad372,A372_0,c372_0,A372_1,c372_1,e372,hx372_0,hx372_1,hx372_2,hx372_3,hx372_4,hl372_0,hi372_0,hl372_1,hi372_1⟩:=at_T59 HR0.out x5_1 p372 q372;obtain rfl : ad370 = ad372:=(by injection e372);have HR372_0:=O hi372_0;have HC372_0:=O hl372_0;clear hi372_0 hl372_0;have HR372_1:=O hi372_1;have HC372_1:=O hl372_1;clear hi372_1 hl372_1;replace p372:=eq_true p372;replace q372:=eq_true q372;have ea_:=Z (hx370_0.symm.trans hx372_0);injection ea_ with ea_ en_ ec_;subst ea_;subst ec_;clear en_;have ea_:=Z (hx370_1.symm.trans hx372_1);injection ea_ with ea_ en_ ec_;subst ea_;subst ec_;clear en_) | ((with_reducible refine gate_callee (f:=45) rfl ?_);refine goesM_ (some 27) Try.func45 #[.slice A370_1 ((rd_T59 l0 x5_1).f1).length c370_1,.int .i64 t371] ?_;(with_reducible refine (laws_heldStmtS.calls k1 _ _ ((rd_T59 l0 x5_1).f1) t371 t373 _ ?side1 ?side2 A7.out).mono ?_);(case side1=>repeat (first | exact HR372_1.out | (with_reducible refine Kd.C_alloc ?_ _) | (with_reducible refine Kd.C_drewN ?_ _) | (with_reducible refine Kd.C_drew ?_)));(case side2=>exact HC372_1.out);rintro e w' ⟨rfl,⟨nd,rfl⟩⟩;refine ⟨_,rfl,?_⟩;have p374 : 0 ≤ (x5_1 : Int):=of_decide_eq_true (by first | (with_reducible assumption) | assumption);have q374 : x5_1 < (l0.length : Int):=of_decide_eq_true (by first | (with_reducible assumption) | assumption);obtain ⟨ad374,A374_0,c374_0,A374_1,c374_1,e374,hx374_0,hx374_1,hx374_2,hx374_3,hx374_4,hl374_0,hi374_0,hl374_1,hi374_1⟩:=at_T59 HR0.out x5_1 p374 q374;obtain rfl : ad370 = ad374:=(by injection e374);have HR374_0:=O hi374_0;have HC374_0:=O hl374_0;clear hi374_0 hl374_0;have HR374_1:=O hi374_1;have HC374_1:=O hl374_1;clear hi374_1 hl374_1;replace p374:=eq_true p374;replace q374:=eq_true q374;have ea_:=Z (hx370_0.symm.trans hx374_0);injection ea_ with ea_ en_ ec_;subst ea_;subst ec_;clear en_;have ea_:=Z (hx370_1.symm.trans hx374_1);injection ea_ with ea_ en_ ec_;subst ea_;subst ec_;clear en_;have p375 : 0 ≤ (x5_1 : Int):=of_decide_eq_true (by first | (with_reducible assumption) | assumption);have q375 : x5_1 < (l0.length : Int):=of_decide_eq_true (by first | (with_reducible assumption) | assumption);obtain ⟨ad375,A375_0,c375_0,A375_1,c375_1,e375,hx375_0,hx375_1,hx375_2,hx375_3,hx375_4,hl375_0,hi375_0,hl375_1,hi375_1⟩:=at_T59 HR0.out x5_1 p375 q375;obtain rfl : ad370 = ad375:=(by injection e375);have HR375_0:=O hi375_0;have HC375_0:=O hl375_0;clear hi375_0 hl375_0;have HR375_1:=O hi375_1;have HC375_1:=O hl375_1;clear hi375_1 hl375_1;replace p375:=eq_true p375;replace q375:=eq_true q375;have ea_:=Z (hx370_0.symm.trans hx375_0);injection ea_ with ea_ en_ ec_;subst ea_;subst ec_;clear en_;have ea_:=Z (hx370_1.symm.trans hx375_1);injection ea_ with ea_ en_ ec_;subst ea_;subst ec_;clear en_))
         go_ret
         exact ⟨by first | rfl | (simp;done) | (simp [*];done),by repeat (first | exact Drawn0.refl _ | apply Drawn0.step)⟩
       ·rw [if_neg c9] at H;have c9b0 : (((rd_T59 l0 x5_1).f2) == t373) = false:=beq_eq_false_iff_ne.mpr c9;have c9b1 : (((rd_T59 l0 x5_1).f2) != t373) = true:=bne_iff_ne.mpr c9;obtain rfl:=Z H
        have p370 : 0 ≤ (x5_1 : Int):=of_decide_eq_true (by first | (with_reducible assumption) | assumption)
        have q370 : x5_1 < (l0.length : Int):=of_decide_eq_true (by first | (with_reducible assumption) | assumption)
        obtain ⟨ad370,A370_0,c370_0,A370_1,c370_1,e370,hx370_0,hx370_1,hx370_2,hx370_3,hx370_4,hl370_0,hi370_0,hl370_1,hi370_1⟩:=at_T59 HR0.out x5_1 p370 q370
        cases e370
        have HR370_0:=O hi370_0;have HC370_0:=O hl370_0;clear hi370_0 hl370_0;have HR370_1:=O hi370_1;have HC370_1:=O hl370_1;clear hi370_1 hl370_1;replace p370:=eq_true p370;replace q370:=eq_true q370
        go_wp2_with (first | ((with_reducible refine gate_callee (f:=30) rfl ?_);refine goesM_ (some 18) Try.func30 #[.slice A370_0 ((rd_T59 l0 x5_1).f0).length c370_0,.int .i64 x1_1] ?_;(with_reducible refine (laws_heldIntS.calls k1 _ _ ((rd_T59 l0 x5_1).f0) x1_1 t371 _ ?side1 ?side2 A5.out).mono ?_);(case side1=>repeat (first | exact HR370_0.out | (with_reducible refine Kd.C_alloc ?_ _) | (with_reducible refine Kd.C_drewN ?_ _) | (with_reducible refine Kd.C_drew ?_)));(case side2=>exact HC370_0.out);rintro e w' ⟨rfl,⟨nd,rfl⟩⟩;refine ⟨_,rfl,?_⟩;have p372 : 0 ≤ (x5_1 : Int):=of_decide_eq_true (by first | (with_reducible assumption) | assumption);have q372 : x5_1 < (l0.length : Int):=of_decide_eq_true (by first | (with_reducible assumption) | assumption);obtain ⟨ad372,A372_0,c372_0,A372_1,c372_1,e372,hx372_0,hx372_1,hx372_2,hx372_3,hx372_4,hl372_0,hi372_0,hl372_1,hi372_1⟩:=at_T59 HR0.out x5_1 p372 q372;obtain rfl : ad370 = ad372:=(by injection e372);have HR372_0:=O hi372_0;have HC372_0:=O hl372_0;clear hi372_0 hl372_0;have HR372_1:=O hi372_1;have HC372_1:=O hl372_1;clear hi372_1 hl372_1;replace p372:=eq_true p372;replace q372:=eq_true q372;have ea_:=Z (hx370_0.symm.trans hx372_0);injection ea_ with ea_ en_ ec_;subst ea_;subst ec_;clear en_;have ea_:=Z (hx370_1.symm.trans hx372_1);injection ea_ with ea_ en_ ec_;subst ea_;subst ec_;clear en_) | ((with_reducible refine gate_callee (f:=45) rfl ?_);refine goesM_ (some 27) Try.func45 #[.slice A370_1 ((rd_T59 l0 x5_1).f1).length c370_1,.int .i64 t371] ?_;(with_reducible refine (laws_heldStmtS.calls k1 _ _ ((rd_T59 l0 x5_1).f1) t371 t373 _ ?side1 ?side2 A7.out).mono ?_);(case side1=>repeat (first | exact HR372_1.out | (with_reducible refine Kd.C_alloc ?_ _) | (with_reducible refine Kd.C_drewN ?_ _) | (with_reducible refine Kd.C_drew ?_)));(case side2=>exact HC372_1.out);rintro e w' ⟨rfl,⟨nd,rfl⟩⟩;refine ⟨_,rfl,?_⟩;have p374 : 0 ≤ (x5_1 : Int):=of_decide_eq_true (by first | (with_reducible assumption) | assumption);have q374 : x5_1 < (l0.length : Int):=of_decide_eq_true (by first | (with_reducible assumption) | assumption);obtain ⟨ad374,A374_0,c374_0,A374_1,c374_1,e374,hx374_0,hx374_1,hx374_2,hx374_3,hx374_4,hl374_0,hi374_0,hl374_1,hi374_1⟩:=at_T59 HR0.out x5_1 p374 q374;obtain rfl : ad370 = ad374:=(by injection e374);have HR374_0:=O hi374_0;have HC374_0:=O hl374_0;clear hi374_0 hl374_0;have HR374_1:=O hi374_1;have HC374_1:=O hl374_1;clear hi374_1 hl374_1;replace p374:=eq_true p374;replace q374:=eq_true q374;have ea_:=Z (hx370_0.symm.trans hx374_0);injection ea_ with ea_ en_ ec_;subst ea_;subst ec_;clear en_;have ea_:=Z (hx370_1.symm.trans hx374_1);injection ea_ with ea_ en_ ec_;subst ea_;subst ec_;clear en_))
        go_ret
        exact ⟨by first | rfl | (simp;done) | (simp [*];done),by repeat (first | exact Drawn0.refl _ | apply Drawn0.step)⟩
    ·rw [if_neg c4] at H
     exact absurd H (by simp)
   ·rw [if_neg c3] at H;have c3b0 : decide (x5_1 < (l0.length : Int)) = false:=decide_eq_false c3;clear c3;obtain rfl:=Z H
    go_wp2
    go_ret
    exact ⟨by first | rfl | (simp;done) | (simp [*];done),by repeat (first | exact Drawn0.refl _ | apply Drawn0.step)⟩
end Go.Proofs.Ytdjkmnkgaacmfaa.P

namespace Go.Proofs.Ytdjkmnkgaacmfaa.P
open Go.RowKit Go.Proofs.YtdjkmnkgaacmfaaW.PrintWords Go.Proofs.YtdjkmnkgaacmfaaW.PrintLast Go.Proofs.YtdjkmnkgaacmfaaW.PrintMore
attribute [local go_sem] max2_int min2_int max_two min_two max_three min_three max_four min_four
set_option linter.unusedVariables false
set_option linter.unusedSimpArgs false
def laws_heldSayS.l0 : Nat → List (S69) → Int → Int → Option (Int)
 | 0,_,_,_=>none
 | k + 1,x0,x1,x5=>if x5 < (x0.length : Int) then (if 0 ≤ x5 then (if ((rd_T69 x0 x5).f0) = x1 then (if ((rd_T69 x0 x5).f1) = (wrap64 (x1 + 1)) then (laws_heldSayS.l0 k x0 (wrap64 ((wrap64 (x1 + 1)) + 1)) (wrap64 (x5 + 1))) else (some (-1))) else (some (-1))) else (none)) else (some x1)
def laws_heldSayS.f (k : Nat) (l0 : List (S69)) (a1 : Int) : Option (Int):=laws_heldSayS.l0 k l0 a1 0
set_option maxHeartbeats 8000000 in
set_option maxRecDepth 100000 in
theorem laws_heldSayS.calls (k : Nat) (A0 : Option Addr) (c0 : Nat) (l0 : List (S69)) (a1 : Int) (r : Int) (w : World) (hr0 : Kd.C k69 w A0 l0.length l0) (hc0 : l0.length ≤ c0) (h : laws_heldSayS.f k l0 a1 = some r) :
  Calls Try.prog 32 #[.slice A0 l0.length c0,.int .i64 a1] w fun e w'=>e = .returned (.int .i64 r) ∧ Drawn0 w w':=by
 have HR0:=Aside0.mk hr0;have HC0:=Aside0.mk hc0;clear hr0 hc0;have H : (laws_heldSayS.l0 k l0 a1 0) = some r:=h;clear h;have H':=Aside0.mk H;clear H;go_enter Try.func32,Try.ntmps32
 go_wp2
 go_loopg [1,5] k (fun kq v1 v5 w'=>∃ (x1_1 : Int) (x5_1 : Int),v1 = .int .i64 x1_1 ∧ v5 = .int .i64 x5_1 ∧ Aside0 (laws_heldSayS.l0 kq l0 x1_1 x5_1 = some r) ∧ Aside0 (kq ≤ k) ∧ Drawn0 w w')
 case atStart=>exact ⟨(a1),(0),(by first | rfl | (simp;done) | (simp [*];done)),(by first | rfl | (simp;done) | (simp [*];done)),H',⟨Nat.le_refl _⟩,by repeat (first | exact Drawn0.refl _ | apply Drawn0.step)⟩
 case round =>
  clear H';(try clear p2);obtain ⟨x1_1,x5_1,rfl,rfl,HA,HK1,⟨m1,rfl⟩⟩:=hrel
  cases gk with
  | zero=>exact absurd HA.out (by simp [laws_heldSayS.l0])
  | succ k1 =>
   have H:=HA.out;clear HA;simp only [laws_heldSayS.l0] at H
   by_cases c3 : x5_1 < (l0.length : Int)
   ·rw [if_pos c3] at H;have c3b0 : decide (x5_1 < (l0.length : Int)) = true:=decide_eq_true c3;clear c3
    by_cases c4 : 0 ≤ x5_1
    ·rw [if_pos c4] at H;have c4b0 : decide (0 ≤ x5_1) = true:=decide_eq_true c4;clear c4
     by_cases c5 : ((rd_T69 l0 x5_1).f0) = x1_1
     ·rw [if_pos c5] at H;have c5b0 : (((rd_T69 l0 x5_1).f0) == x1_1) = true:=beq_iff_eq.mpr c5;have c5b1 : (((rd_T69 l0 x5_1).f0) != x1_1) = false:=bne_eq_false_iff_eq.mpr c5;clear c5
      by_cases c6 : ((rd_T69 l0 x5_1).f1) = (wrap64 (x1_1 + 1))
      ·rw [if_pos c6] at H;have c6b0 : (((rd_T69 l0 x5_1).f1) == (wrap64 (x1_1 + 1))) = true:=beq_iff_eq.mpr c6;have c6b1 : (((rd_T69 l0 x5_1).f1) != (wrap64 (x1_1 + 1))) = false:=bne_eq_false_iff_eq.mpr c6;clear c6;have H':=Aside0.mk H;clear H
       have p379 : 0 ≤ (x5_1 : Int):=of_decide_eq_true (by first | (with_reducible assumption) | assumption)
       have q379 : x5_1 < (l0.length : Int):=of_decide_eq_true (by first | (with_reducible assumption) | assumption)
       obtain ⟨ad379,e379,hx379_0,hx379_1⟩:=at_T69 HR0.out x5_1 p379 q379
       cases e379
       replace p379:=eq_true p379;replace q379:=eq_true q379
       have p380 : 0 ≤ (x5_1 : Int):=of_decide_eq_true (by first | (with_reducible assumption) | assumption)
       have q380 : x5_1 < (l0.length : Int):=of_decide_eq_true (by first | (with_reducible assumption) | assumption)
       obtain ⟨ad380,e380,hx380_0,hx380_1⟩:=at_T69 HR0.out x5_1 p380 q380
       obtain rfl : ad379 = ad380:=(by injection e380)
       replace p380:=eq_true p380;replace q380:=eq_true q380
       go_wp2
       go_roundg k1
       case measure=>have:=HK1.out;omega
       case rel=>exact ⟨(wrap64 ((wrap64 (x1_1 + 1)) + 1)),(wrap64 (x5_1 + 1)),(by first | rfl | (simp;done) | (simp [*];done)),(by first | rfl | (simp;done) | (simp [*];done)),H',⟨by have:=HK1.out;omega⟩,by repeat (first | exact Drawn0.refl _ | apply Drawn0.step)⟩
      ·rw [if_neg c6] at H;have c6b0 : (((rd_T69 l0 x5_1).f1) == (wrap64 (x1_1 + 1))) = false:=beq_eq_false_iff_ne.mpr c6;have c6b1 : (((rd_T69 l0 x5_1).f1) != (wrap64 (x1_1 + 1))) = true:=bne_iff_ne.mpr c6;obtain rfl:=Option.some.inj H
       have p379 : 0 ≤ (x5_1 : Int):=of_decide_eq_true (by first | (with_reducible assumption) | assumption)
       have q379 : x5_1 < (l0.length : Int):=of_decide_eq_true (by first | (with_reducible assumption) | assumption)
       obtain ⟨ad379,e379,hx379_0,hx379_1⟩:=at_T69 HR0.out x5_1 p379 q379
       cases e379
       replace p379:=eq_true p379;replace q379:=eq_true q379
       have p380 : 0 ≤ (x5_1 : Int):=of_decide_eq_true (by first | (with_reducible assumption) | assumption)
       have q380 : x5_1 < (l0.length : Int):=of_decide_eq_true (by first | (with_reducible assumption) | assumption)
       obtain ⟨ad380,e380,hx380_0,hx380_1⟩:=at_T69 HR0.out x5_1 p380 q380
       obtain rfl : ad379 = ad380:=(by injection e380)
       replace p380:=eq_true p380;replace q380:=eq_true q380
       go_wp2
       go_ret
       exact ⟨by first | rfl | (simp;done) | (simp [*];done),by repeat (first | exact Drawn0.refl _ | apply Drawn0.step)⟩
     ·rw [if_neg c5] at H;have c5b0 : (((rd_T69 l0 x5_1).f0) == x1_1) = false:=beq_eq_false_iff_ne.mpr c5;have c5b1 : (((rd_T69 l0 x5_1).f0) != x1_1) = true:=bne_iff_ne.mpr c5;obtain rfl:=Option.some.inj H
      have p379 : 0 ≤ (x5_1 : Int):=of_decide_eq_true (by first | (with_reducible assumption) | assumption)
      have q379 : x5_1 < (l0.length : Int):=of_decide_eq_true (by first | (with_reducible assumption) | assumption)
      obtain ⟨ad379,e379,hx379_0,hx379_1⟩:=at_T69 HR0.out x5_1 p379 q379
      cases e379
      replace p379:=eq_true p379;replace q379:=eq_true q379
      go_wp2
      go_ret
      exact ⟨by first | rfl | (simp;done) | (simp [*];done),by repeat (first | exact Drawn0.refl _ | apply Drawn0.step)⟩
    ·rw [if_neg c4] at H
     exact absurd H (by simp)
   ·rw [if_neg c3] at H;have c3b0 : decide (x5_1 < (l0.length : Int)) = false:=decide_eq_false c3;clear c3;obtain rfl:=Option.some.inj H
    go_wp2
    go_ret
    exact ⟨by first | rfl | (simp;done) | (simp [*];done),by repeat (first | exact Drawn0.refl _ | apply Drawn0.step)⟩
end Go.Proofs.Ytdjkmnkgaacmfaa.P
