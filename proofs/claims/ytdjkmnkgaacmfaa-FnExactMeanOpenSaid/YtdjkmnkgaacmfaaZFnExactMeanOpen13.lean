/- Parts of the proof of FnExactMeanOpen: plain Lean functions of Go functions, and that the calls come to what they say; no condition beyond those that each theorem names. -/
import Derived.Test.YtdjkmnkgaacmfaaZFnExactMeanOpen4
import Derived.Test.YtdjkmnkgaacmfaaZFnExactMeanOpen7
import Derived.Test.YtdjkmnkgaacmfaaZFnExactMeanOpen12
namespace Go.Proofs.Ytdjkmnkgaacmfaa.P
open Go.RowKit Go.Proofs.YtdjkmnkgaacmfaaW.PrintWords Go.Proofs.YtdjkmnkgaacmfaaW.PrintLast Go.Proofs.YtdjkmnkgaacmfaaW.PrintMore
open Bool renaming true → O, false → Z
open Go.Proofs.YtdjkmnkgaacmfaaW.PrintWords renaming Aside0.mk → J, pw_below_drewN → Y
open List renaming setIfInBounds_toArray → E, set_cons_zero → U, set_cons_succ → G
open Go renaming World.block_lt_of_cell? → X
open Go.RowKit renaming wrap64 → Q
attribute [local go_sem] max2_int min2_int max_two min_two max_three min_three max_four min_four
set_option linter.unusedVariables false
set_option linter.unusedSimpArgs false
mutual
def spec_l2Many.l0 : Nat → List (S61) → Int → Int → Int → Option (Int)
 | 0,_,_,_,_=>none
 | k + 1,x0,x1,x5,x6=>if x6 < (x0.length : Int) then (spec_l2Many.j1 k x0 x1 x5 x6 (decide (x1 > 0))) else (spec_l2Many.j1 k x0 x1 x5 x6 false)
def spec_l2Many.j1 : Nat → List (S61) → Int → Int → Int → Bool → Option (Int)
 | 0,_,_,_,_,_=>none
 | k + 1,x0,x1,x5,x6,x14=>if x14 = true then (if 0 ≤ x6 then (if x6 < (x0.length : Int) then ((spec_l2Many.f k ((rd_T61 x0 x6).f4) (Q (x1 - 1))).bind fun t203=>((spec_l2Many.f k ((rd_T61 x0 x6).f5) (Q (x1 - 1))).bind fun t205=>(spec_l2Many.l0 k x0 x1 (Q ((Q ((Q (x5 + 1)) + t203)) + t205)) (Q (x6 + 1))))) else (none)) else (none)) else (some x5)
def spec_l2Many.f : Nat → List (S61) → Int → Option (Int)
 | 0,_,_=>none
 | k + 1,l0,a1=>spec_l2Many.l0 k l0 a1 0 0
end
def spec_l2Many.T5 : Bool × List (List Nat × List Nat):=(true,[([],[]),([0],[0]),([],[]),([],[]),([2,3],[2,3]),([4],[4]),([5],[5]),([],[]),([7],[7]),([6,8],[6,8]),([1,9],[1,9]),([],[]),([],[]),([11,12],[11,12]),([13],[13]),([14],[14]),([],[]),([16],[16]),([15,17,9],[15,17]),([10,18],[10,18]),([19,18,0,1,2,3,4,5,6,7,8,9,10,11,12,13,14,15,16,17,18,19],[0,19])])
def spec_l2Many.B5 : List Nat:=[0,1,0,0,12,28,60,0,128,508,1023,0,0,6144,14336,30720,0,65536,261116,524287,1048575]
theorem spec_l2Many.tab5 : rtab .any (opsOf Try.f51 5) = spec_l2Many.T5:=by kernel_rfl
theorem spec_l2Many.bits5 : waitsOk spec_l2Many.T5.2 spec_l2Many.B5 = true:=by kernel_rfl
set_option maxHeartbeats 8000000 in
set_option maxRecDepth 100000 in
theorem spec_l2Many.calls (k : Nat) : ∀ (A0 : Option Addr) (c0 : Nat) (l0 : List (S61)) (a1 : Int) (r : Int) (w : World) (hr0 : Kd.C k61 w A0 l0.length l0) (hc0 : l0.length ≤ c0) (h : spec_l2Many.f k l0 a1 = some r),
  Calls Try.prog 51 #[.slice A0 l0.length c0,.int .i64 a1] w fun e w'=>e = .returned (.int .i64 r) ∧ Below w.heap.size w w':=by
 induction k using Nat.strongRecOn with
 | _ k ih =>
 intro A0 c0 l0 a1 r w hr0 hc0 h
 cases k with
 | zero=>exact absurd h (by simp [spec_l2Many.f])
 | succ k =>
 simp only [spec_l2Many.f] at h;have HR0:=J hr0;have HC0:=J hc0;clear hr0 hc0;have HB:=J (Below.refl w.heap.size w);have H : (spec_l2Many.l0 k l0 a1 0 0) = some r:=h;clear h;have H':=J H;clear H;go_enter Try.func51,Try.ntmps51
 go_wp2
 go_loopg [5,6] k (fun kq v5 v6 w'=>∃ (x5_1 : Int) (x6_1 : Int),v5 = .int .i64 x5_1 ∧ v6 = .int .i64 x6_1 ∧ Aside0 (spec_l2Many.l0 kq l0 a1 x5_1 x6_1 = some r) ∧ Aside0 (kq ≤ k) ∧ Aside0 (Below w.heap.size w w'))
 case atStart=>exact ⟨(0),(0),(by first | rfl | (simp;done) | (simp [*];done)),(by first | rfl | (simp;done) | (simp [*];done)),H',⟨Nat.le_refl _⟩,⟨by repeat (first | (with_reducible first | exact HB.out | apply below_alloc | apply Y | apply below_drew1) | exact HB.out)⟩⟩
 case round =>
  clear H';(try clear p2);obtain ⟨x5_1,x6_1,rfl,rfl,HA,HK1,HB⟩:=hrel
  cases gk with
  | zero=>exact absurd HA.out (by simp [spec_l2Many.l0])
  | succ k1 =>
   have H:=HA.out;clear HA;simp only [spec_l2Many.l0] at H;have HC3:=J H;clear H
   go_upto_region 3 with (fail)
   go_cut [14] (fun v14 wc=>∃ (kq : Nat) (x14_2 : Bool),v14 = .bool x14_2 ∧ Aside0 (spec_l2Many.j1 kq l0 a1 x5_1 x6_1 x14_2 = some r) ∧ Aside0 (kq ≤ k1) ∧ Aside0 (Below w.heap.size w wc))
   case first =>
    have H:=HC3.out;clear HC3
    by_cases c4 : x6_1 < (l0.length : Int)
    ·rw [if_pos c4] at H;have c4b0 : decide (x6_1 < (l0.length : Int)) = true:=decide_eq_true c4;clear c4
     (first | rw [c4b0] | (simp only [i64_w,i32_w];rw [c4b0]) | skip)
     have H':=J H;clear H
     go_wp2
     go_meet
     case rel=>exact ⟨_,(decide (a1 > 0)),(by first | rfl | (simp;done) | (simp [*];done)),H',⟨by have:=HK1.out;first | omega | exact Nat.le_refl _⟩,⟨by repeat (first | (with_reducible first | exact HB.out | apply below_alloc | apply Y | apply below_drew1) | exact HB.out)⟩⟩
    ·rw [if_neg c4] at H;have c4b0 : decide (x6_1 < (l0.length : Int)) = false:=decide_eq_false c4;clear c4
     (first | rw [c4b0] | (simp only [i64_w,i32_w];rw [c4b0]) | skip)
     have H':=J H;clear H
     go_wp2
     go_meet
     case rel=>exact ⟨_,(false),(by first | rfl | (simp;done) | (simp [*];done)),H',⟨by have:=HK1.out;first | omega | exact Nat.le_refl _⟩,⟨by repeat (first | (with_reducible first | exact HB.out | apply below_alloc | apply Y | apply below_drew1) | exact HB.out)⟩⟩
   case rest =>
    clear HC3;(try clear p2);(try clear c4);(try clear c4b0);(try clear p2);obtain ⟨kq,x14_2,rfl,HA,HJ2,HB⟩:=hcut
    cases kq with
    | zero=>exact absurd HA.out (by simp [spec_l2Many.j1])
    | succ kj2 =>
     have H:=HA.out;clear HA;simp only [spec_l2Many.j1] at H
     by_cases c5 : x14_2 = true
     ·subst c5
      have H1 : (if 0 ≤ x6_1 then (if x6_1 < (l0.length : Int) then ((spec_l2Many.f kj2 ((rd_T61 l0 x6_1).f4) (Q (a1 - 1))).bind fun t203=>((spec_l2Many.f kj2 ((rd_T61 l0 x6_1).f5) (Q (a1 - 1))).bind fun t205=>(spec_l2Many.l0 kj2 l0 a1 (Q ((Q ((Q (x5_1 + 1)) + t203)) + t205)) (Q (x6_1 + 1))))) else (none)) else (none)) = some r:=by rw [if_pos rfl] at H;exact H
      clear H;have H:=H1;clear H1
      by_cases c6 : 0 ≤ x6_1
      ·rw [if_pos c6] at H;have c6b0 : decide (0 ≤ x6_1) = true:=decide_eq_true c6;clear c6
       by_cases c7 : x6_1 < (l0.length : Int)
       ·rw [if_pos c7] at H;have c7b0 : decide (x6_1 < (l0.length : Int)) = true:=decide_eq_true c7;clear c7;replace H:=Option.bind_eq_some_iff.mp H;obtain ⟨t203,A80,H⟩:=H;replace H : ((spec_l2Many.f kj2 ((rd_T61 l0 x6_1).f5) (Q (a1 - 1))).bind fun t205=>(spec_l2Many.l0 kj2 l0 a1 (Q ((Q ((Q (x5_1 + 1)) + t203)) + t205)) (Q (x6_1 + 1)))) = some r:=H;have A8:=J A80;clear A80;replace H:=Option.bind_eq_some_iff.mp H;obtain ⟨t205,A90,H⟩:=H;replace H : (spec_l2Many.l0 kj2 l0 a1 (Q ((Q ((Q (x5_1 + 1)) + t203)) + t205)) (Q (x6_1 + 1))) = some r:=H;have A9:=J A90;clear A90;have H':=J H;clear H
        try go_wp2
        have n0_:=J (below_drew1 HB.out);clear HB;have HB:=n0_;clear n0_
        have p202 : 0 ≤ (x6_1 : Int):=of_decide_eq_true (by first | (with_reducible assumption) | assumption)
        have q202 : x6_1 < (l0.length : Int):=of_decide_eq_true (by first | (with_reducible assumption) | assumption)
        obtain ⟨ad202,A202_4,c202_4,A202_5,c202_5,e202,hx202_0,hx202_1,hx202_2,hx202_3,hx202_4,hx202_5,hl202_4,hi202_4,hl202_5,hi202_5⟩:=at_T61 HR0.out x6_1 p202 q202;have hw202_5:=hx202_5;have hw202_4:=hx202_4;have hw202_3:=hx202_3;have hw202_2:=hx202_2;have hw202_1:=hx202_1;have hw202_0:=hx202_0
        cases e202
        replace hx202_0:=(HB.out.cell (X w _ hx202_0)).trans hx202_0;replace hx202_1:=(HB.out.cell (X w _ hx202_1)).trans hx202_1;replace hx202_2:=(HB.out.cell (X w _ hx202_2)).trans hx202_2;replace hx202_3:=(HB.out.cell (X w _ hx202_3)).trans hx202_3;replace hx202_4:=(HB.out.cell (X w _ hx202_4)).trans hx202_4;replace hx202_5:=(HB.out.cell (X w _ hx202_5)).trans hx202_5;have HR202_4:=J hi202_4;have HC202_4:=J hl202_4;clear hi202_4 hl202_4;have HR202_5:=J hi202_5;have HC202_5:=J hl202_5;clear hi202_5 hl202_5;replace p202:=eq_true p202;replace q202:=eq_true q202
        have p204 : 0 ≤ (x6_1 : Int):=of_decide_eq_true (by first | (with_reducible assumption) | assumption)
        have q204 : x6_1 < (l0.length : Int):=of_decide_eq_true (by first | (with_reducible assumption) | assumption)
        obtain ⟨ad204,A204_4,c204_4,A204_5,c204_5,e204,hx204_0,hx204_1,hx204_2,hx204_3,hx204_4,hx204_5,hl204_4,hi204_4,hl204_5,hi204_5⟩:=at_T61 HR0.out x6_1 p204 q204;have hw204_5:=hx204_5;have hw204_4:=hx204_4;have hw204_3:=hx204_3;have hw204_2:=hx204_2;have hw204_1:=hx204_1;have hw204_0:=hx204_0
        obtain rfl : ad202 = ad204:=(by injection e204)
        replace hx204_0:=(HB.out.cell (X w _ hx204_0)).trans hx204_0;replace hx204_1:=(HB.out.cell (X w _ hx204_1)).trans hx204_1;replace hx204_2:=(HB.out.cell (X w _ hx204_2)).trans hx204_2;replace hx204_3:=(HB.out.cell (X w _ hx204_3)).trans hx204_3;replace hx204_4:=(HB.out.cell (X w _ hx204_4)).trans hx204_4;replace hx204_5:=(HB.out.cell (X w _ hx204_5)).trans hx204_5;have HR204_4:=J hi204_4;have HC204_4:=J hl204_4;clear hi204_4 hl204_4;have HR204_5:=J hi204_5;have HC204_5:=J hl204_5;clear hi204_5 hl204_5;replace p204:=eq_true p204;replace q204:=eq_true q204;have ea_:=Option.some.inj (hx202_4.symm.trans hx204_4)
        injection ea_ with ea_ en_ ec_
        subst ea_;subst ec_;clear en_;have ea_:=Option.some.inj (hx202_5.symm.trans hx204_5)
        injection ea_ with ea_ en_ ec_
        subst ea_;subst ec_;clear en_
        refine start_ (n:=21) (S:=fun w'=>w'.cell? (ad202.add ((x6_1).toNat * 6)) = some (.int .i64 ((rd_T61 l0 x6_1).f0)) ∧ w'.cell? ⟨(ad202.add ((x6_1).toNat * 6)).block,(ad202.add ((x6_1).toNat * 6)).off + 1,none⟩ = some (.int .i64 ((rd_T61 l0 x6_1).f1)) ∧ w'.cell? ⟨(ad202.add ((x6_1).toNat * 6)).block,(ad202.add ((x6_1).toNat * 6)).off + 2,none⟩ = some (.int .i64 ((rd_T61 l0 x6_1).f2)) ∧ w'.cell? ⟨(ad202.add ((x6_1).toNat * 6)).block,(ad202.add ((x6_1).toNat * 6)).off + 3,none⟩ = some (.int .i64 ((rd_T61 l0 x6_1).f3)) ∧ w'.cell? ⟨(ad202.add ((x6_1).toNat * 6)).block,(ad202.add ((x6_1).toNat * 6)).off + 4,none⟩ = some (.slice A202_4 ((rd_T61 l0 x6_1).f4).length c202_4) ∧ w'.cell? ⟨(ad202.add ((x6_1).toNat * 6)).block,(ad202.add ((x6_1).toNat * 6)).off + 5,none⟩ = some (.slice A202_5 ((rd_T61 l0 x6_1).f5).length c202_5) ∧ w'.cell? (ad202.add ((x6_1).toNat * 6)) = some (.int .i64 ((rd_T61 l0 x6_1).f0)) ∧ w'.cell? ⟨(ad202.add ((x6_1).toNat * 6)).block,(ad202.add ((x6_1).toNat * 6)).off + 1,none⟩ = some (.int .i64 ((rd_T61 l0 x6_1).f1)) ∧ w'.cell? ⟨(ad202.add ((x6_1).toNat * 6)).block,(ad202.add ((x6_1).toNat * 6)).off + 2,none⟩ = some (.int .i64 ((rd_T61 l0 x6_1).f2)) ∧ w'.cell? ⟨(ad202.add ((x6_1).toNat * 6)).block,(ad202.add ((x6_1).toNat * 6)).off + 3,none⟩ = some (.int .i64 ((rd_T61 l0 x6_1).f3)) ∧ w'.cell? ⟨(ad202.add ((x6_1).toNat * 6)).block,(ad202.add ((x6_1).toNat * 6)).off + 4,none⟩ = some (.slice A202_4 ((rd_T61 l0 x6_1).f4).length c202_4) ∧ w'.cell? ⟨(ad202.add ((x6_1).toNat * 6)).block,(ad202.add ((x6_1).toNat * 6)).off + 5,none⟩ = some (.slice A202_5 ((rd_T61 l0 x6_1).f5).length c202_5)) (ds:=[]) #[Z,Z,Z,Z,Z,Z,Z,Z,Z,Z,Z,Z,Z,Z,Z,Z,Z,Z,Z,Z,Z] (by kernel_rfl) rfl rfl ⟨((HB.out.cell (X w _ hw202_0)).trans hw202_0),((HB.out.cell (X w _ hw202_1)).trans hw202_1),((HB.out.cell (X w _ hw202_2)).trans hw202_2),((HB.out.cell (X w _ hw202_3)).trans hw202_3),((HB.out.cell (X w _ hw202_4)).trans hw202_4),((HB.out.cell (X w _ hw202_5)).trans hw202_5),((HB.out.cell (X w _ hw204_0)).trans hw204_0),((HB.out.cell (X w _ hw204_1)).trans hw204_1),((HB.out.cell (X w _ hw204_2)).trans hw204_2),((HB.out.cell (X w _ hw204_3)).trans hw204_3),((HB.out.cell (X w _ hw204_4)).trans hw204_4),((HB.out.cell (X w _ hw204_5)).trans hw204_5)⟩ (fun hHeld=>?_);refine with_tabW spec_l2Many.tab5 spec_l2Many.bits5 (fun HT_ HW_=>?_)
        generalize wc.drew = w10 at HB HR202_4 HR202_5 HR204_4 HR204_5 hx202_0 hx202_1 hx202_2 hx202_3 hx202_4 hx202_5 hx204_0 hx204_1 hx204_2 hx204_3 hx204_4 hx204_5 hHeld ⊢
        refine pure_ (i:=0) (N:=some 17) (v:=?_) (a':=?_) #[O,Z,Z,Z,Z,Z,Z,Z,Z,Z,Z,Z,Z,Z,Z,Z,Z,Z,Z,Z,Z] rfl rfl (any_of HT_.out (by kernel_rfl)) (fun _ _ _ h=>h) (Or.inl ⟨by rfl,?_⟩) ?_ ?_;rotate_left;(intro w';go_simp;with_reducible rfl);rotate_left;((try simp only [Act.put,E,U,G,i64_w,i32_w]);rfl)
        refine pure_ (i:=1) (N:=some 18) (v:=?_) (a':=?_) #[O,O,Z,Z,Z,Z,Z,Z,Z,Z,Z,Z,Z,Z,Z,Z,Z,Z,Z,Z,Z] rfl rfl (any_of HT_.out (by kernel_rfl)) (fun _ _ _ h=>h) (Or.inl ⟨by rfl,?_⟩) ?_ ?_;rotate_left;(intro w';go_simp;with_reducible rfl);rotate_left;((try simp only [Act.put,E,U,G,i64_w,i32_w]);rfl)
        refine pure_ (i:=2) (N:=some 19) (v:=?_) (a':=?_) #[O,O,O,Z,Z,Z,Z,Z,Z,Z,Z,Z,Z,Z,Z,Z,Z,Z,Z,Z,Z] rfl rfl (any_of HT_.out (by kernel_rfl)) (fun _ _ _ h=>h) (Or.inl ⟨by rfl,?_⟩) ?_ ?_;rotate_left;(intro w';go_simp;with_reducible rfl);rotate_left;((try simp only [Act.put,E,U,G,i64_w,i32_w]);rfl)
        refine pure_ (i:=3) (N:=some 20) (v:=?_) (a':=?_) #[O,O,O,O,Z,Z,Z,Z,Z,Z,Z,Z,Z,Z,Z,Z,Z,Z,Z,Z,Z] rfl rfl (any_of HT_.out (by kernel_rfl)) (fun _ _ _ h=>h) (Or.inl ⟨by rfl,?_⟩) ?_ ?_;rotate_left;(intro w';go_simp;with_reducible rfl);rotate_left;((try simp only [Act.put,E,U,G,i64_w,i32_w]);rfl)
        refine pure_ (i:=4) (N:=some 21) (v:=?_) (a':=?_) #[O,O,O,O,O,Z,Z,Z,Z,Z,Z,Z,Z,Z,Z,Z,Z,Z,Z,Z,Z] rfl rfl (any_of HT_.out (by kernel_rfl)) (fun _ _ _ h=>h) (Or.inl ⟨by rfl,?_⟩) ?_ ?_;rotate_left;(intro w';go_simp;with_reducible rfl);rotate_left;((try simp only [Act.put,E,U,G,i64_w,i32_w]);rfl)
        refine pure_ (i:=5) (N:=some 22) (v:=?_) (a':=?_) #[O,O,O,O,O,O,Z,Z,Z,Z,Z,Z,Z,Z,Z,Z,Z,Z,Z,Z,Z] rfl rfl (any_of HT_.out (by kernel_rfl)) (fun _ _ _ h=>h) (Or.inl ⟨by rfl,?_⟩) ?_ ?_;rotate_left;(intro w';go_simp;with_reducible rfl);rotate_left;((try simp only [Act.put,E,U,G,i64_w,i32_w]);rfl)
        refine pure_ (i:=7) (N:=some 24) (v:=?_) (a':=?_) #[O,O,O,O,O,O,Z,O,Z,Z,Z,Z,Z,Z,Z,Z,Z,Z,Z,Z,Z] rfl rfl (any_of HT_.out (by kernel_rfl)) (fun _ _ _ h=>h) (Or.inl ⟨by rfl,?_⟩) ?_ ?_;rotate_left;(intro w';go_simp;with_reducible rfl);rotate_left;((try simp only [Act.put,E,U,G,i64_w,i32_w]);rfl)
        refine pure_ (i:=8) (N:=some 25) (v:=?_) (a':=?_) #[O,O,O,O,O,O,Z,O,O,Z,Z,Z,Z,Z,Z,Z,Z,Z,Z,Z,Z] rfl rfl (any_of HT_.out (by kernel_rfl)) (fun _ _ _ h=>h) (Or.inl ⟨by rfl,?_⟩) ?_ ?_;rotate_left;(intro w';go_simp;with_reducible rfl);rotate_left;((try simp only [Act.put,E,U,G,i64_w,i32_w]);rfl)
        refine pure_ (i:=11) (N:=some 28) (v:=?_) (a':=?_) #[O,O,O,O,O,O,Z,O,O,Z,Z,O,Z,Z,Z,Z,Z,Z,Z,Z,Z] rfl rfl (any_of HT_.out (by kernel_rfl)) (fun _ _ _ h=>h) (Or.inl ⟨by rfl,?_⟩) ?_ ?_;rotate_left;(intro w';go_simp;with_reducible rfl);rotate_left;((try simp only [Act.put,E,U,G,i64_w,i32_w]);rfl)
        refine pure_ (i:=12) (N:=some 29) (v:=?_) (a':=?_) #[O,O,O,O,O,O,Z,O,O,Z,Z,O,O,Z,Z,Z,Z,Z,Z,Z,Z] rfl rfl (any_of HT_.out (by kernel_rfl)) (fun _ _ _ h=>h) (Or.inl ⟨by rfl,?_⟩) ?_ ?_;rotate_left;(intro w';go_simp;with_reducible rfl);rotate_left;((try simp only [Act.put,E,U,G,i64_w,i32_w]);rfl)
        refine pure_ (i:=13) (N:=some 30) (v:=?_) (a':=?_) #[O,O,O,O,O,O,Z,O,O,Z,Z,O,O,O,Z,Z,Z,Z,Z,Z,Z] rfl rfl (any_of HT_.out (by kernel_rfl)) (fun _ _ _ h=>h) (Or.inl ⟨by rfl,?_⟩) ?_ ?_;rotate_left;(intro w';go_simp;with_reducible rfl);rotate_left;((try simp only [Act.put,E,U,G,i64_w,i32_w]);rfl)
        refine pure_ (i:=14) (N:=some 31) (v:=?_) (a':=?_) #[O,O,O,O,O,O,Z,O,O,Z,Z,O,O,O,O,Z,Z,Z,Z,Z,Z] rfl rfl (any_of HT_.out (by kernel_rfl)) (fun _ _ _ h=>h) (Or.inl ⟨by rfl,?_⟩) ?_ ?_;rotate_left;(intro w';go_simp;with_reducible rfl);rotate_left;((try simp only [Act.put,E,U,G,i64_w,i32_w]);rfl)
        refine pure_ (i:=16) (N:=some 33) (v:=?_) (a':=?_) #[O,O,O,O,O,O,Z,O,O,Z,Z,O,O,O,O,Z,O,Z,Z,Z,Z] rfl rfl (any_of HT_.out (by kernel_rfl)) (fun _ _ _ h=>h) (Or.inl ⟨by rfl,?_⟩) ?_ ?_;rotate_left;(intro w';go_simp;with_reducible rfl);rotate_left;((try simp only [Act.put,E,U,G,i64_w,i32_w]);rfl)
        refine pure_ (i:=17) (N:=some 34) (v:=?_) (a':=?_) #[O,O,O,O,O,O,Z,O,O,Z,Z,O,O,O,O,Z,O,O,Z,Z,Z] rfl rfl (any_of HT_.out (by kernel_rfl)) (fun _ _ _ h=>h) (Or.inl ⟨by rfl,?_⟩) ?_ ?_;rotate_left;(intro w';go_simp;with_reducible rfl);rotate_left;((try simp only [Act.put,E,U,G,i64_w,i32_w]);rfl)
        refine take_ (i:=6) (N:=some 23) (v:=?_) (a':=?_) #[O,O,O,O,O,O,O,O,O,Z,Z,O,O,O,O,Z,O,O,Z,Z,Z] rfl rfl (take_ofW HT_.out HW_.out (by kernel_rfl)) (fun _ _ _ h=>h) (Or.inl ⟨by rfl,?_⟩) hHeld ?_ ?_;rotate_left;(rintro w' ⟨s0,s1,s2,s3,s4,s5,s6,s7,s8,s9,s10,s11⟩;go_simp;with_reducible rfl);rotate_left;((try simp only [Act.put,E,U,G,i64_w,i32_w]);rfl)
        refine take_ (i:=15) (N:=some 32) (v:=?_) (a':=?_) #[O,O,O,O,O,O,O,O,O,Z,Z,O,O,O,O,O,O,O,Z,Z,Z] rfl rfl (take_ofW HT_.out HW_.out (by kernel_rfl)) (fun _ _ _ h=>h) (Or.inl ⟨by rfl,?_⟩) hHeld ?_ ?_;rotate_left;(rintro w' ⟨s0,s1,s2,s3,s4,s5,s6,s7,s8,s9,s10,s11⟩;go_simp;with_reducible rfl);rotate_left;((try simp only [Act.put,E,U,G,i64_w,i32_w]);rfl)
        refine one_ (i:=9) (N:=some 26) #[O,O,O,O,O,O,O,O,O,O,Z,O,O,O,O,O,O,O,Z,Z,Z] rfl rfl (one_of HT_.out (by kernel_rfl)) (by decide) (fun K hK=>?_)
        refine goes_ Try.func51 (by kernel_rfl) rfl #[.slice A202_4 ((rd_T61 l0 x6_1).f4).length c202_4,.int .i64 (Q (a1 - 1))] (by rfl) rfl rfl (by (try simp only [List.map_toArray,List.map_cons,List.map_nil]);first | done | rfl | (simp only [List.length_drop,List.length_take];rfl)) ?_
        with_reducible refine (ih kj2 (by have:=HK1.out;have:=HJ2.out;omega) _ _ ((rd_T61 l0 x6_1).f4) (Q (a1 - 1)) t203 _ ?side1 ?side2 A8.out).mono ?_
        (case side1=>repeat (first | exact (Kd.C_below HR202_4.out HB.out) | (with_reducible refine Kd.C_alloc ?_ _) | (with_reducible refine Kd.C_drewN ?_ _) | (with_reducible refine Kd.C_drew ?_)))
        (case side2=>exact HC202_4.out)
        rintro e w11 ⟨rfl,hb⟩
        refine ⟨_,rfl,?_⟩
        have n0_:=J (below_step (q0_ HB) hb)
        clear HB;have HB:=n0_;clear n0_
        refine hK.out _ _ ⟨((HB.out.cell (X w _ hw202_0)).trans hw202_0),((HB.out.cell (X w _ hw202_1)).trans hw202_1),((HB.out.cell (X w _ hw202_2)).trans hw202_2),((HB.out.cell (X w _ hw202_3)).trans hw202_3),((HB.out.cell (X w _ hw202_4)).trans hw202_4),((HB.out.cell (X w _ hw202_5)).trans hw202_5),((HB.out.cell (X w _ hw204_0)).trans hw204_0),((HB.out.cell (X w _ hw204_1)).trans hw204_1),((HB.out.cell (X w _ hw204_2)).trans hw204_2),((HB.out.cell (X w _ hw204_3)).trans hw204_3),((HB.out.cell (X w _ hw204_4)).trans hw204_4),((HB.out.cell (X w _ hw204_5)).trans hw204_5)⟩ (fun hHeld=>?_)
        clear hK K
        refine norm_ (a':=?_) ?_ ?_
        rotate_left
        ·show Act.put _ (some 26) _ = _
         simp only [Act.put,E,U,G,i64_w,i32_w]
         rfl
        refine pure_ (i:=10) (N:=some 27) (v:=?_) (a':=?_) #[O,O,O,O,O,O,O,O,O,O,O,O,O,O,O,O,O,O,Z,Z,Z] rfl rfl (any_of HT_.out (by kernel_rfl)) (fun _ _ _ h=>h) (Or.inl ⟨by rfl,?_⟩) ?_ ?_;rotate_left;(intro w';go_simp;with_reducible rfl);rotate_left;((try simp only [Act.put,E,U,G,i64_w,i32_w]);rfl)
        refine one_ (i:=18) (N:=some 35) #[O,O,O,O,O,O,O,O,O,O,O,O,O,O,O,O,O,O,O,Z,Z] rfl rfl (one_of HT_.out (by kernel_rfl)) (by decide) (fun K hK=>?_)
        refine goes_ Try.func51 (by kernel_rfl) rfl #[.slice A202_5 ((rd_T61 l0 x6_1).f5).length c202_5,.int .i64 (Q (a1 - 1))] (by rfl) rfl rfl (by (try simp only [List.map_toArray,List.map_cons,List.map_nil]);first | done | rfl | (simp only [List.length_drop,List.length_take];rfl)) ?_
        with_reducible refine (ih kj2 (by have:=HK1.out;have:=HJ2.out;omega) _ _ ((rd_T61 l0 x6_1).f5) (Q (a1 - 1)) t205 _ ?side1 ?side2 A9.out).mono ?_
        (case side1=>repeat (first | exact (Kd.C_below HR204_5.out HB.out) | (with_reducible refine Kd.C_alloc ?_ _) | (with_reducible refine Kd.C_drewN ?_ _) | (with_reducible refine Kd.C_drew ?_)))
        (case side2=>exact HC204_5.out)
        rintro e w12 ⟨rfl,hb⟩
        refine ⟨_,rfl,?_⟩
        have n0_:=J (below_step (q0_ HB) hb)
        clear HB;have HB:=n0_;clear n0_
        refine hK.out _ _ ⟨((HB.out.cell (X w _ hw202_0)).trans hw202_0),((HB.out.cell (X w _ hw202_1)).trans hw202_1),((HB.out.cell (X w _ hw202_2)).trans hw202_2),((HB.out.cell (X w _ hw202_3)).trans hw202_3),((HB.out.cell (X w _ hw202_4)).trans hw202_4),((HB.out.cell (X w _ hw202_5)).trans hw202_5),((HB.out.cell (X w _ hw204_0)).trans hw204_0),((HB.out.cell (X w _ hw204_1)).trans hw204_1),((HB.out.cell (X w _ hw204_2)).trans hw204_2),((HB.out.cell (X w _ hw204_3)).trans hw204_3),((HB.out.cell (X w _ hw204_4)).trans hw204_4),((HB.out.cell (X w _ hw204_5)).trans hw204_5)⟩ (fun hHeld=>?_)
        clear hK K
        refine norm_ (a':=?_) ?_ ?_
        rotate_left
        ·show Act.put _ (some 35) _ = _
         simp only [Act.put,E,U,G,i64_w,i32_w]
         rfl
        refine pure_ (i:=19) (N:=some 36) (v:=?_) (a':=?_) #[O,O,O,O,O,O,O,O,O,O,O,O,O,O,O,O,O,O,O,O,Z] rfl rfl (any_of HT_.out (by kernel_rfl)) (fun _ _ _ h=>h) (Or.inl ⟨by rfl,?_⟩) ?_ ?_;rotate_left;(intro w';go_simp;with_reducible rfl);rotate_left;((try simp only [Act.put,E,U,G,i64_w,i32_w]);rfl)
        refine pure_ (i:=20) (N:=some 5) (v:=?_) (a':=?_) #[O,O,O,O,O,O,O,O,O,O,O,O,O,O,O,O,O,O,O,O,O] rfl rfl (any_of HT_.out (by kernel_rfl)) (fun _ _ _ h=>h) (Or.inl ⟨by rfl,?_⟩) ?_ ?_;rotate_left;(intro w';go_simp;with_reducible rfl);rotate_left;((try simp only [Act.put,E,U,G,i64_w,i32_w]);rfl)
        refine done_ (done_of HT_.out (by kernel_rfl)) ?_
        try go_wp2
        go_roundg kj2
        case measure=>have:=HK1.out;have:=HJ2.out;omega
        case rel=>exact ⟨(Q ((Q ((Q (x5_1 + 1)) + t203)) + t205)),(Q (x6_1 + 1)),(by first | rfl | (simp;done) | (simp [*];done)),(by first | rfl | (simp;done) | (simp [*];done)),H',⟨by have:=HK1.out;have:=HJ2.out;omega⟩,⟨by repeat (first | (with_reducible first | exact HB.out | apply below_alloc | apply Y | apply below_drew1) | exact HB.out)⟩⟩
       ·rw [if_neg c7] at H
        exact absurd H (by simp)
      ·rw [if_neg c6] at H
       exact absurd H (by simp)
     ·replace c5:=Bool.eq_false_iff.mpr c5;subst c5
      have H1 : (some x5_1) = some r:=by rw [if_neg (show ¬ (false = true) by decide)] at H;exact H
      clear H;have H:=H1;clear H1;obtain rfl:=Option.some.inj H
      go_wp2
      go_ret
      exact ⟨by first | rfl | (simp [errW_none,errW_some] <;> rfl) | (simp [*,errW_none,errW_some] <;> rfl),by repeat (first | (with_reducible first | exact HB.out | apply below_alloc | apply Y | apply below_drew1) | exact HB.out)⟩
def spec_StmtsOk.f (k : Nat) (l0 : List (S61)) : Option (Bool):=(spec_l2List.f k l0 3 (-1)).bind fun t206=>(if t206 = true then ((spec_l2Many.f k l0 3).bind fun t207=>(some (decide (t207 ≤ 14)))) else (some false))
set_option maxHeartbeats 8000000 in
set_option maxRecDepth 100000 in
theorem spec_StmtsOk.calls (k : Nat) (A0 : Option Addr) (c0 : Nat) (l0 : List (S61)) (r : Bool) (w : World) (hr0 : Kd.C k61 w A0 l0.length l0) (hc0 : l0.length ≤ c0) (h : spec_StmtsOk.f k l0 = some r) :
  Calls Try.prog 46 #[.slice A0 l0.length c0] w fun e w'=>e = .returned (.bool r) ∧ Below w.heap.size w w':=by
 have HR0:=J hr0;have HC0:=J hc0;clear hr0 hc0;have HB:=J (Below.refl w.heap.size w);have H : ((spec_l2List.f k l0 3 (-1)).bind fun t206=>(if t206 = true then ((spec_l2Many.f k l0 3).bind fun t207=>(some (decide (t207 ≤ 14)))) else (some false))) = some r:=h;clear h;replace H:=Option.bind_eq_some_iff.mp H;obtain ⟨t206,A20,H⟩:=H;replace H : (if t206 = true then ((spec_l2Many.f k l0 3).bind fun t207=>(some (decide (t207 ≤ 14)))) else (some false)) = some r:=H;have A2:=J A20;clear A20
 by_cases c3 : t206 = true
 ·subst c3
  have H1 : ((spec_l2Many.f k l0 3).bind fun t207=>(some (decide (t207 ≤ 14)))) = some r:=by rw [if_pos rfl] at H;exact H
  clear H;have H:=H1;clear H1;replace H:=Option.bind_eq_some_iff.mp H;obtain ⟨t207,A40,H⟩:=H;replace H : (some (decide (t207 ≤ 14))) = some r:=H;have A4:=J A40;clear A40;obtain rfl:=Option.some.inj H;go_enter Try.func46,Try.ntmps46
  go_wp2_with (first | ((with_reducible refine gate_callee (f:=50) rfl ?_);refine goesM_ (some 4) Try.func50 #[.slice A0 l0.length c0,.int .i64 3,.int .i64 (-1)] ?_;(with_reducible refine (spec_l2List.calls k _ _ l0 3 (-1) true _ ?side1 ?side2 A2.out).mono ?_);(case side1=>repeat (first | exact HR0.out | (with_reducible refine Kd.C_alloc ?_ _) | (with_reducible refine Kd.C_drewN ?_ _) | (with_reducible refine Kd.C_drew ?_)));(case side2=>exact HC0.out);rintro e w5 ⟨rfl,hb⟩;refine ⟨_,rfl,?_⟩;have n0_:=J (below_step (q0_ HB) hb);clear HB;have HB:=n0_;clear n0_;(try clear hb)) | (go_at_call 51;(with_reducible refine (spec_l2Many.calls k _ _ l0 3 t207 _ ?side1 ?side2 A4.out).mono ?_);(case side1=>repeat (first | exact (Kd.C_below HR0.out HB.out) | (with_reducible refine Kd.C_alloc ?_ _) | (with_reducible refine Kd.C_drewN ?_ _) | (with_reducible refine Kd.C_drew ?_)));(case side2=>exact HC0.out);rintro e w6 ⟨rfl,hb⟩;have n0_:=J (below_step (q0_ HB) hb);clear HB;have HB:=n0_;clear n0_;(try clear hb)))
  go_ret
  exact ⟨by first | rfl | (simp [errW_none,errW_some] <;> rfl) | (simp [*,errW_none,errW_some] <;> rfl),by repeat (first | (with_reducible first | exact HB.out | apply below_alloc | apply Y | apply below_drew1) | exact HB.out)⟩
 ·replace c3:=Bool.eq_false_iff.mpr c3;subst c3
  have H1 : (some false) = some r:=by rw [if_neg (show ¬ (false = true) by decide)] at H;exact H
  clear H;have H:=H1;clear H1;obtain rfl:=Option.some.inj H;go_enter Try.func46,Try.ntmps46
  go_wp2_with (first | ((with_reducible refine gate_callee (f:=50) rfl ?_);refine goesM_ (some 4) Try.func50 #[.slice A0 l0.length c0,.int .i64 3,.int .i64 (-1)] ?_;(with_reducible refine (spec_l2List.calls k _ _ l0 3 (-1) false _ ?side1 ?side2 A2.out).mono ?_);(case side1=>repeat (first | exact HR0.out | (with_reducible refine Kd.C_alloc ?_ _) | (with_reducible refine Kd.C_drewN ?_ _) | (with_reducible refine Kd.C_drew ?_)));(case side2=>exact HC0.out);rintro e w7 ⟨rfl,hb⟩;refine ⟨_,rfl,?_⟩;have n0_:=J (below_step (q0_ HB) hb);clear HB;have HB:=n0_;clear n0_;(try clear hb)))
  go_ret
  exact ⟨by first | rfl | (simp [errW_none,errW_some] <;> rfl) | (simp [*,errW_none,errW_some] <;> rfl),by repeat (first | (with_reducible first | exact HB.out | apply below_alloc | apply Y | apply below_drew1) | exact HB.out)⟩
def spec_ProgOk.l0 : Nat → List (List (S61)) → Int → Option (Bool)
 | 0,_,_=>none
 | k + 1,x0,x3=>if x3 < (x0.length : Int) then (if 0 ≤ x3 then ((spec_StmtsOk.f k (rd_L5 x0 x3)).bind fun t209=>(if t209 = true then (spec_ProgOk.l0 k x0 (Q (x3 + 1))) else (some false))) else (none)) else (if (x0.length : Int) ≥ 1 then (some (decide ((x0.length : Int) ≤ 3))) else (some false))
def spec_ProgOk.f (k : Nat) (l0 : List (List (S61))) : Option (Bool):=spec_ProgOk.l0 k l0 0
set_option maxHeartbeats 8000000 in
set_option maxRecDepth 100000 in
theorem spec_ProgOk.calls (k : Nat) (A0 : Option Addr) (c0 : Nat) (l0 : List (List (S61))) (r : Bool) (w : World) (hr0 : Kd.C (Kd.slice 61 k61) w A0 l0.length l0) (hc0 : l0.length ≤ c0) (h : spec_ProgOk.f k l0 = some r) :
  Calls Try.prog 36 #[.slice A0 l0.length c0] w fun e w'=>e = .returned (.bool r) ∧ Below w.heap.size w w':=by
 have HR0:=J hr0;have HC0:=J hc0;clear hr0 hc0;have HB:=J (Below.refl w.heap.size w);have H : (spec_ProgOk.l0 k l0 0) = some r:=h;clear h;have H':=J H;clear H;go_enter Try.func36,Try.ntmps36
 go_wp2
 go_loopg [3] k (fun kq v3 w'=>∃ (x3_1 : Int),v3 = .int .i64 x3_1 ∧ Aside0 (spec_ProgOk.l0 kq l0 x3_1 = some r) ∧ Aside0 (kq ≤ k) ∧ Aside0 (Below w.heap.size w w'))
 case atStart=>exact ⟨(0),(by first | rfl | (simp;done) | (simp [*];done)),H',⟨Nat.le_refl _⟩,⟨by repeat (first | (with_reducible first | exact HB.out | apply below_alloc | apply Y | apply below_drew1) | exact HB.out)⟩⟩
 case round =>
  clear H';obtain ⟨x3_1,rfl,HA,HK1,HB⟩:=hrel
  cases gk with
  | zero=>exact absurd HA.out (by simp [spec_ProgOk.l0])
  | succ k1 =>
   have H:=HA.out;clear HA;simp only [spec_ProgOk.l0] at H
   by_cases c2 : x3_1 < (l0.length : Int)
   ·rw [if_pos c2] at H;have c2b0 : decide (x3_1 < (l0.length : Int)) = true:=decide_eq_true c2;clear c2
    by_cases c3 : 0 ≤ x3_1
    ·rw [if_pos c3] at H;have c3b0 : decide (0 ≤ x3_1) = true:=decide_eq_true c3;clear c3;replace H:=Option.bind_eq_some_iff.mp H;obtain ⟨t209,A40,H⟩:=H;replace H : (if t209 = true then (spec_ProgOk.l0 k1 l0 (Q (x3_1 + 1))) else (some false)) = some r:=H;have A4:=J A40;clear A40
     by_cases c5 : t209 = true
     ·subst c5
      have H1 : (spec_ProgOk.l0 k1 l0 (Q (x3_1 + 1))) = some r:=by rw [if_pos rfl] at H;exact H
      clear H;have H:=H1;clear H1;have H':=J H;clear H
      have p208 : 0 ≤ (x3_1 : Int):=of_decide_eq_true (by first | (with_reducible assumption) | assumption)
      have q208 : x3_1 < (l0.length : Int):=of_decide_eq_true (by first | (with_reducible assumption) | assumption)
      obtain ⟨ad208,A208_0,c208_0,e208,hx208_0,hl208_0,hi208_0⟩:=at_L5 HR0.out x3_1 p208 q208
      cases e208
      replace hx208_0:=(HB.out.cell (X w _ hx208_0)).trans hx208_0;have HR208_0:=J hi208_0;have HC208_0:=J hl208_0;clear hi208_0 hl208_0;replace p208:=eq_true p208;replace q208:=eq_true q208
      go_wp2_with (first | ((with_reducible refine gate_callee (f:=46) rfl ?_);refine goesM_ (some 14) Try.func46 #[.slice A208_0 (rd_L5 l0 x3_1).length c208_0] ?_;(with_reducible refine (spec_StmtsOk.calls k1 _ _ (rd_L5 l0 x3_1) true _ ?side1 ?side2 A4.out).mono ?_);(case side1=>repeat (first | exact (Kd.C_below HR208_0.out HB.out) | (with_reducible refine Kd.C_alloc ?_ _) | (with_reducible refine Kd.C_drewN ?_ _) | (with_reducible refine Kd.C_drew ?_)));(case side2=>exact HC208_0.out);rintro e w6 ⟨rfl,hb⟩;refine ⟨_,rfl,?_⟩;have n0_:=J (below_step (q0_ HB) hb);clear HB;have HB:=n0_;clear n0_;(try clear hb)))
      go_roundg k1
      case measure=>have:=HK1.out;omega
      case rel=>exact ⟨(Q (x3_1 + 1)),(by first | rfl | (simp;done) | (simp [*];done)),H',⟨by have:=HK1.out;omega⟩,⟨by repeat (first | (with_reducible first | exact HB.out | apply below_alloc | apply Y | apply below_drew1) | exact HB.out)⟩⟩
     ·replace c5:=Bool.eq_false_iff.mpr c5;subst c5
      have H1 : (some false) = some r:=by rw [if_neg (show ¬ (false = true) by decide)] at H;exact H
      clear H;have H:=H1;clear H1;obtain rfl:=Option.some.inj H
      have p208 : 0 ≤ (x3_1 : Int):=of_decide_eq_true (by first | (with_reducible assumption) | assumption)
      have q208 : x3_1 < (l0.length : Int):=of_decide_eq_true (by first | (with_reducible assumption) | assumption)
      obtain ⟨ad208,A208_0,c208_0,e208,hx208_0,hl208_0,hi208_0⟩:=at_L5 HR0.out x3_1 p208 q208
      cases e208
      replace hx208_0:=(HB.out.cell (X w _ hx208_0)).trans hx208_0;have HR208_0:=J hi208_0;have HC208_0:=J hl208_0;clear hi208_0 hl208_0;replace p208:=eq_true p208;replace q208:=eq_true q208
      go_wp2_with (first | ((with_reducible refine gate_callee (f:=46) rfl ?_);refine goesM_ (some 14) Try.func46 #[.slice A208_0 (rd_L5 l0 x3_1).length c208_0] ?_;(with_reducible refine (spec_StmtsOk.calls k1 _ _ (rd_L5 l0 x3_1) false _ ?side1 ?side2 A4.out).mono ?_);(case side1=>repeat (first | exact (Kd.C_below HR208_0.out HB.out) | (with_reducible refine Kd.C_alloc ?_ _) | (with_reducible refine Kd.C_drewN ?_ _) | (with_reducible refine Kd.C_drew ?_)));(case side2=>exact HC208_0.out);rintro e w7 ⟨rfl,hb⟩;refine ⟨_,rfl,?_⟩;have n0_:=J (below_step (q0_ HB) hb);clear HB;have HB:=n0_;clear n0_;(try clear hb)))
      go_ret
      exact ⟨by first | rfl | (simp [errW_none,errW_some] <;> rfl) | (simp [*,errW_none,errW_some] <;> rfl),by repeat (first | (with_reducible first | exact HB.out | apply below_alloc | apply Y | apply below_drew1) | exact HB.out)⟩
    ·rw [if_neg c3] at H
     exact absurd H (by simp)
   ·rw [if_neg c2] at H;have c2b0 : decide (x3_1 < (l0.length : Int)) = false:=decide_eq_false c2;clear c2
    by_cases c8 : (l0.length : Int) ≥ 1
    ·rw [if_pos c8] at H;have c8b0 : decide (1 ≤ (l0.length : Int)) = true:=decide_eq_true c8
     have c8b1 : decide (1 ≤ l0.length) = true:=decide_eq_true (by omega)
     clear c8;obtain rfl:=Option.some.inj H
     go_wp2
     go_ret
     exact ⟨by first | rfl | (simp [errW_none,errW_some] <;> rfl) | (simp [*,errW_none,errW_some] <;> rfl),by repeat (first | (with_reducible first | exact HB.out | apply below_alloc | apply Y | apply below_drew1) | exact HB.out)⟩
    ·rw [if_neg c8] at H;have c8b0 : decide (1 ≤ (l0.length : Int)) = false:=decide_eq_false c8
     have c8b1 : decide (1 ≤ l0.length) = false:=decide_eq_false (by omega)
     clear c8;obtain rfl:=Option.some.inj H
     go_wp2
     go_ret
     exact ⟨by first | rfl | (simp [errW_none,errW_some] <;> rfl) | (simp [*,errW_none,errW_some] <;> rfl),by repeat (first | (with_reducible first | exact HB.out | apply below_alloc | apply Y | apply below_drew1) | exact HB.out)⟩
end Go.Proofs.Ytdjkmnkgaacmfaa.P

namespace Go.Proofs.Ytdjkmnkgaacmfaa.P
open Go.RowKit Go.Proofs.YtdjkmnkgaacmfaaW.PrintWords Go.Proofs.YtdjkmnkgaacmfaaW.PrintLast Go.Proofs.YtdjkmnkgaacmfaaW.PrintMore
set_option linter.unusedVariables false
set_option linter.unusedSimpArgs false
section
variable {P : Program} {ops : Array Oper} {Q : Exit → Act → World → Prop} {md : Region.Mode} {S : World → Prop} {ds : List Nat}
theorem put_tmps (a : Act) (t : Tmp) (v : Value) (s : Nat) : (a.put (some t) v).tmps[s]? = if s = t ∧ t < a.tmps.size then some v else a.tmps[s]?:=by
  show (a.tmps.setIfInBounds t v)[s]? = _
  by_cases h : s = t
  · subst h
    by_cases hl : s < a.tmps.size
    · rw [Array.getElem?_setIfInBounds_self_of_lt hl,if_pos ⟨rfl,hl⟩]
    · rw [if_neg (fun z=>hl z.2),Array.getElem?_eq_none (by simp;omega),Array.getElem?_eq_none (by omega)]
  · rw [Array.getElem?_setIfInBounds_ne (fun z=>h z.symm),if_neg (fun z=>h z.1)]
theorem put_size (a : Act) (t : Tmp) (v : Value) : (a.put (some t) v).tmps.size = a.tmps.size:=by
  show (a.tmps.setIfInBounds t v).size = _
  simp
def puts (a : Act) (gs : List (Nat × Tmp)) (vs : Nat → Value) : Act:=putAll a (gs.map fun g=>(g.2,vs g.1))
theorem puts_size (vs : Nat → Value) : ∀ (gs : List (Nat × Tmp)) (a : Act),(puts a gs vs).tmps.size = a.tmps.size ∧ (puts a gs vs).defers = a.defers
  | [],a=>⟨rfl,rfl⟩
  | g :: gs,a=>by
    have h:=puts_size vs gs (a.put (some g.2) (vs g.1))
    exact ⟨h.1.trans (put_size _ _ _),h.2⟩
theorem puts_old (vs : Nat → Value) : ∀ (gs : List (Nat × Tmp)) (a : Act) (t : Nat),t ∉ gs.map (·.2) → (puts a gs vs).tmps[t]? = a.tmps[t]?
  | [],a,t,_=>rfl
  | g :: gs,a,t,h=>by
    have h1 : t ≠ g.2:=fun z=>h (by simp [z])
    have h2 : t ∉ gs.map (·.2):=fun z=>h (by rw [List.map_cons];exact List.mem_cons_of_mem _ z)
    have:=puts_old vs gs (a.put (some g.2) (vs g.1)) t h2
    rw [put_tmps,if_neg (fun z=>h1 z.1)] at this
    exact this
theorem puts_new (vs : Nat → Value) : ∀ (gs : List (Nat × Tmp)) (a : Act) (g : Nat × Tmp),g ∈ gs → (gs.map (·.2)).Nodup → g.2 < a.tmps.size → (puts a gs vs).tmps[g.2]? = some (vs g.1)
  | g' :: gs,a,g,h,hn,hl=>by
    rw [List.map_cons,List.nodup_cons] at hn
    rcases List.mem_cons.1 h with rfl | h
    · have:=puts_old vs gs (a.put (some g.2) (vs g.1)) g.2 hn.1
      rw [put_tmps,if_pos ⟨rfl,hl⟩] at this
      exact this
    · exact puts_new vs gs (a.put (some g'.2) (vs g'.1)) g h hn.2 (by rw [put_size];exact hl)
def growB (md : Region.Mode) (ops : Array Oper) (l0 l1 : Array Bool) (gs : List (Nat × Tmp)) (nt : Nat) : Bool :=
  (l0.size == ops.size) && (l1.size == ops.size) && (gs.map (·.1)).Nodup && (gs.map (·.2)).Nodup && Region.closedB md ops l0
  && gs.all (fun g=>decide (g.1 < ops.size) && !l0.getD g.1 true && decide (g.2 < nt) && match ops[g.1]? with | some o=>(o.dst == some g.2) && (o.guard.isNone) && o.after.all (fun e=>!Region.binds md e || (decide (e.on < g.1) && (l0.getD e.on false || (gs.map (·.1)).contains e.on))) | none=>false)
  && (List.range ops.size).all (fun j=>(l1.getD j true == ((gs.map (·.1)).contains j || l0.getD j true)) && (l0.getD j true || (gs.map (·.1)).contains j || gs.all fun g=>Region.reachB md ops g.1 ops.size j))
structure GrowOk (md : Region.Mode) (ops : Array Oper) (l0 l1 : Array Bool) (gs : List (Nat × Tmp)) (nt : Nat) : Prop where
  s0 : l0.size = ops.size
  s1 : l1.size = ops.size
  n1 : (gs.map (·.1)).Nodup
  n2 : (gs.map (·.2)).Nodup
  cl : ListedClosed md ops l0
  ok : ∀ g ∈ gs,g.1 < ops.size ∧ l0.getD g.1 true = false ∧ g.2 < nt ∧ ∃ o,ops[g.1]? = some o ∧ o.dst = some g.2 ∧ o.guard = none ∧ ∀ e ∈ o.after,Region.binds md e = true → e.on < g.1 ∧ (l0.getD e.on false = true ∨ e.on ∈ gs.map (·.1))
  re : ∀ j,j < ops.size → l1.getD j true = (decide (j ∈ gs.map (·.1)) || l0.getD j true) ∧ (l0.getD j true = true ∨ j ∈ gs.map (·.1) ∨ ∀ g ∈ gs,Region.reachB md ops g.1 ops.size j = true)
theorem growB_spec {l0 l1 : Array Bool} {gs : List (Nat × Tmp)} {nt : Nat} (h : growB md ops l0 l1 gs nt = true) : GrowOk md ops l0 l1 gs nt:=by
  unfold growB at h
  simp only [Bool.and_eq_true,decide_eq_true_eq,beq_iff_eq] at h
  obtain ⟨⟨⟨⟨⟨⟨h1,h2⟩,h3⟩,h4⟩,h5⟩,h6⟩,h7⟩:=h
  refine ⟨h1,h2,h3,h4,Region.closedB_spec h5,fun g hg=>?_,fun j hj=>?_⟩
  · have z:=List.all_eq_true.1 h6 g hg
    simp only [Bool.and_eq_true,decide_eq_true_eq,Bool.not_eq_true'] at z
    obtain ⟨⟨⟨z1,z2⟩,z3⟩,z4⟩:=z
    refine ⟨z1,z2,z3,?_⟩
    cases ho : ops[g.1]? with
    | none=>rw [ho] at z4;simp at z4
    | some o =>
      rw [ho] at z4
      simp only [Bool.and_eq_true,beq_iff_eq,Option.isNone_iff_eq_none] at z4
      refine ⟨o,rfl,z4.1.1,z4.1.2,fun e he hb=>?_⟩
      have y:=Array.all_eq_true_iff_forall_mem.1 z4.2 e he
      simp only [hb,Bool.not_true,Bool.false_or,Bool.and_eq_true,decide_eq_true_eq,Bool.or_eq_true,List.contains_iff_mem] at y
      exact y
  · have z:=List.all_eq_true.1 h7 j (List.mem_range.2 hj)
    simp only [Bool.and_eq_true,beq_iff_eq,Bool.or_eq_true,List.contains_iff_mem] at z
    refine ⟨?_,?_⟩
    · rw [z.1]
      congr 1
      by_cases y : j ∈ gs.map (·.1)
      · rw [decide_eq_true y];exact List.contains_iff_mem.2 y
      · rw [decide_eq_false y]
        cases y2 : (gs.map (·.1)).contains j
        · rfl
        · exact absurd (List.contains_iff_mem.1 y2) y
    · rcases z.2 with (a | b) | c
      · exact .inl a
      · exact .inr (.inl b)
      · exact .inr (.inr fun g hg=>List.all_eq_true.1 c g hg)
theorem wanted_none {o : Oper} (y : Nat → Option Bool) (h : o.guard = none) : Region.wanted o y = true:=by
  unfold Region.wanted
  rw [h]
theorem mem_needs {o : Oper} {k : Nat} : k ∈ needsOf md o ↔ ∃ e ∈ o.after,Region.binds md e = true ∧ e.on = k:=by
  unfold needsOf
  simp [List.mem_map,List.mem_filter,and_assoc]
theorem getD_in {l : Array Bool} {j : Nat} (h : j < l.size) (b c : Bool) : l.getD j b = l.getD j c:=by simp [h]
theorem grow_all {fuel : Nat} {l0 : Array Bool} {a0 : Act} {w0 : World} (gs : List (Nat × Tmp)) (l1 : Array Bool) (hc : GrowOk md ops l0 l1 gs a0.tmps.size) (G : Nat → (Nat → Value) → World → Value → Prop)
    (mono : ∀ i vs w w' v,Below w.heap.size w w' → G i vs w v → G i vs w' v)
    (cong : ∀ g ∈ gs,∀ oi,ops[g.1]? = some oi → ∀ vs vs' w v,(∀ k ∈ needsOf md oi,vs k = vs' k) → G g.1 vs w v → G g.1 vs' w v)
    (hS : ∀ w,Below w0.heap.size w0 w → S w)
    (step : ∀ g ∈ gs,∀ oi,ops[g.1]? = some oi → ∀ (a : Act) (w : World) (vs : Nat → Value),Below w0.heap.size w0 w → (∀ k ∈ gs,k.1 ∈ needsOf md oi → G k.1 vs w (vs k.1) ∧ a.eval (.tmp k.2) = vs k.1) → (∀ t,t ∉ gs.map (·.2) → a.eval (.tmp t) = a0.eval (.tmp t)) → ∀ K : Act → World → Prop,(∀ v w',Below w.heap.size w w' → G g.1 vs w' v → K (a.put (some g.2) v) w') → if Region.wanted oi (yielded ops a.tmps) = true then Oper.wp P oi a w K Q else K (a.put oi.dst undef) w)
    (done : ∀ vs w,Below w0.heap.size w0 w → (∀ g ∈ gs,G g.1 vs w (vs g.1)) → wpAnyLast P md ops Q S ds fuel l1 (puts a0 gs vs) w) :
    ∀ (n : Nat) (rs : List Nat) (l : Array Bool) (a : Act) (w : World) (vs : Nat → Value),rs.length = n → rs.Nodup → (∀ i ∈ rs,i ∈ gs.map (·.1)) → l.size = l0.size → (∀ j,j < ops.size → l.getD j true = (l0.getD j true || (decide (j ∈ gs.map (·.1)) && !decide (j ∈ rs)))) → ListedClosed md ops l → a.tmps.size = a0.tmps.size → a.defers = a0.defers → (∀ g ∈ gs,g.1 ∉ rs → a.tmps[g.2]? = some (vs g.1) ∧ G g.1 vs w (vs g.1)) → (∀ t,(∀ g ∈ gs,g.1 ∉ rs → g.2 ≠ t) → a.tmps[t]? = a0.tmps[t]?) → Below w0.heap.size w0 w → wpAnyLast P md ops Q S ds (fuel + n) l a w:=by
  intro n
  induction n with
  | zero =>
    intro rs l a w vs hr _ _ hls hl _ hsz hdf hg ho hB
    obtain rfl:=List.eq_nil_of_length_eq_zero hr
    have e1 : l = l1:=by
      apply Array.ext (by rw [hls,hc.s0,hc.s1])
      intro j h1 h2
      have hj : j < ops.size:=by rw [← hc.s1];exact h2
      have z:=hl j hj
      rw [(show l.getD j true = l[j] by simp [h1])] at z
      have y:=(hc.re j hj).1
      rw [(show l1.getD j true = l1[j] by simp [h2])] at y
      rw [z,y]
      simp [Bool.or_comm]
    have e2 : a = puts a0 gs vs:=by
      obtain ⟨t1,d1⟩:=a
      obtain ⟨p1,p2⟩:=puts_size vs gs a0
      have : t1 = (puts a0 gs vs).tmps:=by
        apply Array.ext_getElem?
        intro t
        by_cases h : t ∈ gs.map (·.2)
        · obtain ⟨g,hgm,rfl⟩:=List.mem_map.1 h
          rw [puts_new vs gs a0 g hgm hc.n2 (hc.ok g hgm).2.2.1]
          exact (hg g hgm (by simp)).1
        · rw [puts_old vs gs a0 t h]
          exact ho t fun g hgm _ z=>h (List.mem_map.2 ⟨g,hgm,z⟩)
      subst this
      have hd2 : d1 = (puts a0 gs vs).defers:=hdf.trans p2.symm
      rw [hd2]
    rw [e1,e2]
    exact done vs w hB fun g hgm=>(hg g hgm (by simp)).2
  | succ n ih =>
    intro rs l a w vs hr hnd hrg hls hl hcl hsz hdf hg ho hB
    have hun : ∀ r ∈ rs,l.getD r true = false:=fun r hrm=>by
      obtain ⟨g,hgm,rfl⟩:=List.mem_map.1 (hrg r hrm)
      rw [hl g.1 (hc.ok g hgm).1,(hc.ok g hgm).2.1,decide_eq_true hrm]
      simp
    have hli : ∀ j,j < ops.size → j ∈ gs.map (·.1) → j ∉ rs → l.getD j true = true:=fun j hj hm hn=>by
      rw [hl j hj,decide_eq_true hm,decide_eq_false hn]
      simp
    have hsize : l.size = ops.size:=by rw [hls,hc.s0]
    refine ⟨fun hnone=>?_,fun i hi=>?_⟩
    · exfalso
      -- the least that remains is ready
      obtain ⟨m,hm,hmin⟩ : ∃ m ∈ rs,∀ r ∈ rs,m ≤ r:=by
        have hne : rs ≠ []:=fun z=>by rw [z] at hr;simp at hr
        have key : ∀ (xs : List Nat),xs ≠ [] → ∃ m ∈ xs,∀ r ∈ xs,m ≤ r:=by
          intro xs
          induction xs with
          | nil=>intro h;exact absurd rfl h
          | cons x t ih2 =>
            intro _
            by_cases ht : t = []
            · subst ht;exact ⟨x,by simp,fun r hr=>by simp at hr;omega⟩
            · obtain ⟨m,hm,hmin⟩:=ih2 ht
              by_cases hx : x ≤ m
              · exact ⟨x,by simp,fun r hr=>by rcases List.mem_cons.1 hr with rfl | h;exact Nat.le_refl _;exact Nat.le_trans hx (hmin r h)⟩
              · exact ⟨m,by simp [hm],fun r hr=>by rcases List.mem_cons.1 hr with rfl | h;omega;exact hmin r h⟩
        exact key rs hne
      obtain ⟨g,hgm,rfl⟩:=List.mem_map.1 (hrg m hm)
      obtain ⟨g1,g2,g3,o,ho1,ho2,ho3,hed⟩:=hc.ok g hgm
      have : g.1 ∈ Region.ready md ops l:=mem_ready.2 ⟨hun _ hm,o,ho1,fun e he hb=>by
        obtain ⟨e1,e2⟩:=hed e he hb
        have hin : e.on < ops.size:=by omega
        rw [getD_in (by omega) false true,hl _ hin]
        rcases e2 with e2 | e2
        · rw [getD_in (by rw [hc.s0];omega) false true] at e2
          rw [e2];rfl
        · have : e.on ∉ rs:=fun z=>by have:=hmin _ z;omega
          rw [decide_eq_true e2,decide_eq_false this]
          simp⟩
      rw [hnone] at this
      cases this
    · obtain ⟨hiu,o,hoi,hall⟩:=mem_ready.1 hi
      have hilt : i < ops.size:=(Array.getElem?_eq_some_iff.1 hoi).1
      have hig : i ∈ gs.map (·.1):=by
        rcases (hc.re i hilt).2 with h | h | h
        · rw [hl i hilt,h] at hiu
          simp at hiu
        · exact h
        · exfalso
          obtain ⟨r,hrm⟩ : ∃ r,r ∈ rs:=by
            cases rs with
            | nil=>simp at hr
            | cons r t=>exact ⟨r,by simp⟩
          obtain ⟨g,hgm,rfl⟩:=List.mem_map.1 (hrg r hrm)
          exact Region.reach_not_ready hcl (h g hgm) (hun _ hrm) hi
      have hir : i ∈ rs:=by
        by_cases h : i ∈ rs
        · exact h
        · rw [hli i hilt hig h] at hiu
          cases hiu
      obtain ⟨g,hgm,rfl⟩:=List.mem_map.1 hig
      obtain ⟨g1,g2,g3,o',ho1,ho2,ho3,hed⟩:=hc.ok g hgm
      obtain rfl : o' = o:=Option.some.inj (ho1.symm.trans hoi)
      refine wpOp_step hoi fun K hK=>?_
      refine step g hgm o' hoi a w vs hB (fun k hk hkn=>?_) (fun t ht=>?_) K fun v w' hb hG=>?_
      · obtain ⟨e,he,hbd,hek⟩:=mem_needs.1 hkn
        have h1:=hall e he hbd
        have hkr : k.1 ∉ rs:=fun z=>by
          have h2:=hun _ z
          rw [hek,getD_in (by rw [hsize];exact (hc.ok k hk).1) false true,h2] at h1
          cases h1
        obtain ⟨h3,h4⟩:=hg k hk hkr
        refine ⟨h4,?_⟩
        show a.tmps.getD k.2 undef = _
        rw [Array.getD_eq_getD_getElem?,h3]
        rfl
      · show a.tmps.getD t undef = a0.tmps.getD t undef
        rw [Array.getD_eq_getD_getElem?,Array.getD_eq_getD_getElem?,ho t fun g' hg' _ z=>ht (List.mem_map.2 ⟨g',hg',z⟩)]
      · refine hK _ _ ⟨fun _ _=>hS w' (below_step hB hb),?_⟩
        have hmem : ∀ j,j ∈ rs.erase g.1 ↔ j ∈ rs ∧ j ≠ g.1:=fun j=>by
          rw [hnd.mem_erase_iff]
          exact And.comm
        have hself : ∀ k ∈ needsOf md o',k ≠ g.1:=fun k hk z=>by
          obtain ⟨e,he,hbd,hek⟩:=mem_needs.1 hk
          have:=(hed e he hbd).1
          omega
        refine ih (rs.erase g.1) _ _ w' (fun k=>if k = g.1 then v else vs k) ?_ (hnd.erase _) (fun j hj=>hrg j ((hmem j).1 hj).1) (by simp [hls]) (fun j hj=>?_) (hcl.set hi) (by rw [put_size];exact hsz) (by exact hdf) (fun k hk hkr=>?_) (fun t ht=>?_) (below_step hB hb)
        · rw [List.length_erase_of_mem hir,hr]
          rfl
        · by_cases hjg : j = g.1
          · subst hjg
            have : (l.setIfInBounds g.1 true).getD g.1 true = true:=by simp [hsize,hj]
            rw [this,decide_eq_true hig,decide_eq_false (fun z=>((hmem _).1 z).2 rfl)]
            simp
          · rw [getD_set_ne true (fun z=>hjg z.symm),hl j hj]
            have : decide (j ∈ rs.erase g.1) = decide (j ∈ rs):=by
              by_cases z : j ∈ rs
              · rw [decide_eq_true z,decide_eq_true ((hmem j).2 ⟨z,hjg⟩)]
              · rw [decide_eq_false z,decide_eq_false fun y=>z ((hmem j).1 y).1]
            rw [this]
        · by_cases hkg : k.1 = g.1
          · have hkk : k = g:=by
              have h5:=hc.n1
              have aux : ∀ (xs : List (Nat × Tmp)),(xs.map (·.1)).Nodup → k ∈ xs → g ∈ xs → k = g:=by
                intro xs
                induction xs with
                | nil=>intro _ h;cases h
                | cons x t ih3 =>
                  intro hn hk1 hg1
                  rw [List.map_cons,List.nodup_cons] at hn
                  rcases List.mem_cons.1 hk1 with rfl | hk7 <;> rcases List.mem_cons.1 hg1 with rfl | hg7
                  · rfl
                  · exact absurd (List.mem_map.2 ⟨g,hg7,hkg.symm⟩) hn.1
                  · exact absurd (List.mem_map.2 ⟨k,hk7,hkg⟩) hn.1
                  · exact ih3 hn.2 hk7 hg7
              exact aux gs h5 hk hgm
            subst hkk
            rw [put_tmps,if_pos ⟨rfl,by rw [hsz];exact g3⟩,if_pos rfl]
            exact ⟨rfl,cong k hk o' hoi vs _ w' v (fun q hq=>(if_neg (hself q hq)).symm) hG⟩
          · have hkr2 : k.1 ∉ rs:=fun z=>hkr ((hmem _).2 ⟨z,hkg⟩)
            obtain ⟨h3,h4⟩:=hg k hk hkr2
            have hne2 : k.2 ≠ g.2:=by
              have h5:=hc.n2
              intro z
              have aux : ∀ (xs : List (Nat × Tmp)),(xs.map (·.2)).Nodup → k ∈ xs → g ∈ xs → k = g:=by
                intro xs
                induction xs with
                | nil=>intro _ h;cases h
                | cons x t ih3 =>
                  intro hn hk1 hg1
                  rw [List.map_cons,List.nodup_cons] at hn
                  rcases List.mem_cons.1 hk1 with rfl | hk7 <;> rcases List.mem_cons.1 hg1 with rfl | hg7
                  · rfl
                  · exact absurd (List.mem_map.2 ⟨g,hg7,z.symm⟩) hn.1
                  · exact absurd (List.mem_map.2 ⟨k,hk7,z⟩) hn.1
                  · exact ih3 hn.2 hk7 hg7
              exact hkg (congrArg (·.1) (aux gs h5 hk hgm))
            rw [put_tmps,if_neg (fun z=>hne2 z.1),if_neg hkg]
            refine ⟨h3,?_⟩
            obtain ⟨k1,k2,k3,ok,hk1,hk2,hk3,hked⟩:=hc.ok k hk
            refine cong k hk ok hk1 vs _ w' _ (fun q hq=>(if_neg fun z=>?_).symm) (mono _ _ _ _ _ hb h4)
            obtain ⟨e,he,hbd,hek⟩:=mem_needs.1 hq
            have hlk : l.getD k.1 false = true:=by rw [getD_in (by rw [hsize];exact k1) false true];exact hli _ k1 (List.mem_map.2 ⟨k,hk,rfl⟩) hkr2
            have:=hcl k.1 ok hk1 hlk e he hbd
            rw [hek,z,getD_in (by rw [hsize];exact g1) false true,hun _ hir] at this
            cases this
        · have hne : t ≠ g.2:=fun z=>ht g hgm (fun y=>((hmem _).1 y).2 rfl) z.symm
          rw [put_tmps,if_neg (fun z=>hne z.1)]
          exact ho t fun g' hg' hn'=>ht g' hg' (fun y=>hn' ((hmem _).1 y).1)
theorem grow_ {fuel fuel1 : Nat} {l0 : Array Bool} {a0 : Act} {w0 : World} (gs : List (Nat × Tmp)) (l1 : Array Bool) (nt : Nat) (hnt : a0.tmps.size = nt) (hc : growB md ops l0 l1 gs nt = true) (hf : fuel1 = fuel + gs.length) (G : Nat → (Nat → Value) → World → Value → Prop)
    (mono : ∀ i vs w w' v,Below w.heap.size w w' → G i vs w v → G i vs w' v)
    (cong : ∀ g ∈ gs,∀ oi,ops[g.1]? = some oi → ∀ vs vs' w v,(∀ k ∈ needsOf md oi,vs k = vs' k) → G g.1 vs w v → G g.1 vs' w v)
    (hS : ∀ w,Below w0.heap.size w0 w → S w)
    (step : ∀ g ∈ gs,∀ oi,ops[g.1]? = some oi → ∀ (a : Act) (w : World) (vs : Nat → Value),Below w0.heap.size w0 w → (∀ k ∈ gs,k.1 ∈ needsOf md oi → G k.1 vs w (vs k.1) ∧ a.eval (.tmp k.2) = vs k.1) → (∀ t,t ∉ gs.map (·.2) → a.eval (.tmp t) = a0.eval (.tmp t)) → ∀ K : Act → World → Prop,(∀ v w',Below w.heap.size w w' → G g.1 vs w' v → K (a.put (some g.2) v) w') → if Region.wanted oi (yielded ops a.tmps) = true then Oper.wp P oi a w K Q else K (a.put oi.dst undef) w)
    (done : ∀ vs w,Below w0.heap.size w0 w → (∀ g ∈ gs,G g.1 vs w (vs g.1)) → wpAnyLast P md ops Q S ds fuel l1 (puts a0 gs vs) w) : wpAnyLast P md ops Q S ds fuel1 l0 a0 w0:=by
  subst hnt
  subst hf
  have h:=growB_spec hc
  refine grow_all gs l1 h G mono cong hS step done gs.length (gs.map (·.1)) l0 a0 w0 (fun _=>undef) (by simp) h.n1 (fun _ hi=>hi) rfl (fun j hj=>?_) h.cl rfl rfl (fun g hg hn=>absurd (List.mem_map.2 ⟨g,hg,rfl⟩) hn) (fun _ _=>rfl) (Below.refl _ _)
  cases decide (j ∈ gs.map (·.1)) <;> simp
theorem same_ {α : Type} {o : Option α} {x y : α} (h : o = some x) (k : o = some y) : y = x:=Option.some.inj (k.symm.trans h)
theorem lit0_step {α : Type} {o : Oper} {a : Act} {W : World} {Kc : Act → World → Prop} (d : Kd α) (base e : Nat) (hw : Region.wanted o (yielded ops a.tmps) = true)
    (hrun : (execOp a.eval o).run P W = .ok (.value (.slice (some ⟨W.heap.size,0,none⟩) 0 0)) (W.alloc (.cells #[] e))) (hbase : base ≤ W.heap.size)
    (h : ∀ g w1,W.heap.size ≤ g → d.R e w1 base (fun _=>True) (.slice (some ⟨g,0,none⟩) 0 0) ([] : List α) → Below W.heap.size W w1 → Kc (a.put o.dst (.slice (some ⟨g,0,none⟩) 0 0)) w1) :
    if Region.wanted o (yielded ops a.tmps) = true then Oper.wp P o a W Kc Q else Kc (a.put o.dst undef) W:=by
  refine event_step hw hrun (h _ _ (Nat.le_refl _) ⟨fun _ _=>trivial,[],?_,Reps.none _ _⟩ (below_alloc (Below.refl _ _) _))
  have h2:=World.ownsRow_lit (base:=base) (e:=e) (size:=d.sz) W #[] 0 hbase (by simp [maxLen]) (by simp)
  simpa using h2
theorem lit_append_step {α : Type} {o : Oper} {a : Act} {W : World} {Kc : Act → World → Prop} (d : Kd α) {Rr : α → List Value → Prop} (base : Nat) (hw : Region.wanted o (yielded ops a.tmps) = true) (s x : Operand) (t e : TypeId) (z : Value) (bytes : Nat)
    (ho : o.op = .call { callee:=.builtin .append,args:=#[s,x],argTypes:=#[t,t] })
    (ht : P.underlying t = some (.slice e)) (hinfo : (P.info? e).map (fun i=>(i.zero,i.size,i.bytes)) = some (some z,d.sz,bytes)) (hz : z.cells.size = d.sz) (hs0 : 0 < d.sz)
    (g : Nat) (ys : List α) (A : Option Addr) (m c : Nat) (okp : Nat → Prop) (hs : a.eval s = .slice (some ⟨g,0,none⟩) 0 0) (hx : a.eval x = .slice A m c)
    (HO : d.R e W base (fun _=>True) (.slice (some ⟨g,0,none⟩) 0 0) ([] : List α)) (HR : ReadsRow Rr d.sz W A m ys) (hKM : ∀ x cs,Rr x cs → d.M W base okp x cs) (hbase : base ≤ W.heap.size) (hl : m * bytes ≤ 140737488355328)
    (hb0 : 0 < bytes) (h : ∀ v1 w1,d.R e w1 base (fun _=>True) v1 ys → Below W.heap.size W w1 → Kc (a.put o.dst v1) w1) :
    if Region.wanted o (yielded ops a.tmps) = true then Oper.wp P o a W Kc Q else Kc (a.put o.dst undef) W:=by
  obtain ⟨i0,hi,hzz⟩:=Option.map_eq_some_iff.1 hinfo
  simp only [Prod.mk.injEq] at hzz
  obtain ⟨hz0,hz1,hz2⟩:=hzz
  have hm : ys.length = m:=HR.1
  have hmm : m ≤ 140737488355328:=Nat.le_trans (Nat.le_mul_of_pos_right _ hb0) hl
  have hrun : ∃ v1 w1,(Builtin.append_ #[t,t] o.type #[.slice (some ⟨g,0,none⟩) 0 0,.slice A m c]).run P W = .ok v1 w1 ∧ d.R e w1 base (fun _=>True) v1 ys ∧ Below W.heap.size W w1:=by
    by_cases h0 : m = 0
    · subst h0
      obtain rfl:=List.eq_nil_of_length_eq_zero hm
      refine ⟨_,W,?_,HO,Below.refl _ _⟩
      cases A <;> simp [Builtin.append_,run_underlying ht,sizeOf,typeInfo,hi,Builtin.lenOf,Builtin.firstCells,storeCells,loadCells,loadCellsFrom]
    · obtain ⟨ad,rfl,_⟩:=HR.2.2 (by omega)
      obtain ⟨news,hnr,hnc⟩:=ReadsRow.inner_ HR
      have hnM : Reps (d.M W base okp) d.sz ys news:=hnr.imp_ (fun p c hp=>hKM p c hp)
      have hone : ∀ u ∈ news,u.oneCell' = true:=by
        intro u hu
        obtain ⟨q,hq,rfl⟩:=List.mem_iff_getElem.1 hu
        have hql : q / d.sz < ys.length:=by
          rw [Nat.div_lt_iff_lt_mul hs0]
          rw [← hnM.1]
          exact hq
        have hc:=hnM.2 (q / d.sz) _ (List.getElem?_eq_getElem hql)
        refine d.K_one (d.K_of_M hc) _ ?_
        rw [List.mem_iff_getElem?]
        refine ⟨q % d.sz,?_⟩
        rw [List.getElem?_take,if_pos (Nat.mod_lt _ hs0),List.getElem?_drop,Nat.mul_comm,Nat.div_add_mod,List.getElem?_eq_getElem hq]
      have hnl : news.length = m * i0.size:=by rw [hnM.1,hm,hz1]
      obtain ⟨v1,w1,hr,h2,hg,_,hat⟩:=run_append_own_at (P:=P) W base t o.type e i0 z d.sz bytes ht hi hz0 hz1 hz2 hz hs0 (.slice none 0 0) 0 [] (own_nil W base e d.sz) ad m c news (by rw [hnM.1,hm]) hnc hone (by simp only [maxLen];omega) (by simpa using hl) hbase
      have r1:=run_append_nil (P:=P) W t o.type e i0 z ht hi hz0 ad m c news hnl hnc (by omega) (by omega) (by rw [hz2];omega)
      have r2:=run_append_grow (P:=P) W t o.type e i0 z ht hi hz0 ⟨g,0,none⟩ 0 0 [] (by simp) (fun j v hj=>by simp at hj) ad m c news hnl hnc (by omega) (by omega) (growslice_fits (by omega) (by rw [hz2];simpa using hl))
      have hb : Below W.heap.size W w1:=⟨hg.os,hg.tape,hg.output,hg.size,fun k hk=>hg.block k hk (by simp [Value.ownBlock])⟩
      refine ⟨v1,w1,?_,⟨fun _ _=>trivial,news,by simpa [hm] using h2,hnM.imp_ fun p cs hp=>?_⟩,hb⟩
      · rw [← hr,r1,r2]
        simp
      · refine d.M_mono (fun k hk=>⟨trivial,fun z=>?_⟩) (Kd.M_below (d.M_bound hp) hb)
        rcases hat with hat | hat
        · rw [hat] at z
          simp [Value.ownBlock] at z
        · rw [hat] at z
          injection z with z
          have:=hk.2.2.1
          omega
  obtain ⟨v1,w1,hr1,h1,hb⟩:=hrun
  rw [if_pos hw]
  unfold Oper.wp execOp
  simp only [ho,resolve,invoke,builtin,Sem.run_bind,Sem.run_pure,Result.andThen_ok,List.map_toArray,List.map_cons,List.map_nil,hs,hx,hr1]
  exact h v1 w1 h1 hb
end
end Go.Proofs.Ytdjkmnkgaacmfaa.P

namespace Go.Proofs.Ytdjkmnkgaacmfaa.P
open Go.RowKit Go.Proofs.YtdjkmnkgaacmfaaW.PrintWords Go.Proofs.YtdjkmnkgaacmfaaW.PrintLast Go.Proofs.YtdjkmnkgaacmfaaW.PrintMore
attribute [local go_sem] max2_int min2_int max_two min_two max_three min_three max_four min_four
set_option linter.unusedVariables false
set_option linter.unusedSimpArgs false
mutual
def impl_copyStmts.l0 : Nat → List (S61) → List (S61) → Int → Int → Option ((List (S61)))
 | 0,_,_,_,_=>none
 | k + 1,x3,x6,x7,x8=>if x8 < x7 then (if 0 ≤ x8 then (if x8 < (x6.length : Int) then ((impl_copyStmts.f k ((rd_T61 x6 x8).f4)).bind fun t273=>((impl_copyStmts.f k ((rd_T61 x6 x8).f5)).bind fun t276=>(if x3.length < 1759218604441 then (impl_copyStmts.l0 k (x3 ++ [(⟨(rd_T61 x6 x8).f0,(rd_T61 x6 x8).f1,(rd_T61 x6 x8).f2,(rd_T61 x6 x8).f3,t273,t276⟩ : S61)]) x6 x7 (wrap64 (x8 + 1))) else (none)))) else (none)) else (none)) else (some x3)
def impl_copyStmts.f : Nat → List (S61) → Option ((List (S61)))
 | 0,_=>none
 | k + 1,l0=>impl_copyStmts.l0 k ([] : List (S61)) l0 (l0.length : Int) 0
end
def impl_copyStmts.T5 : Bool × List (List Nat × List Nat):=(true,[([],[]),([0],[0]),([1],[1]),([],[]),([3],[3]),([4,2],[4]),([0,1,2,3,4],[]),([6,2,5,0,1,2,3,4],[2,6]),([0,1,2,3,4,5,6,7],[]),([8,5,7,0,1,2,3,4,5,6,7],[5,8])])
def impl_copyStmts.B5 : List Nat:=[0,1,3,0,8,31,31,127,255,511]
theorem impl_copyStmts.tab5 : rtab .any (opsOf Try.f41 5) = impl_copyStmts.T5:=by kernel_rfl
theorem impl_copyStmts.bits5 : waitsOk impl_copyStmts.T5.2 impl_copyStmts.B5 = true:=by kernel_rfl
end Go.Proofs.Ytdjkmnkgaacmfaa.P

namespace Go.Proofs.Ytdjkmnkgaacmfaa.P
open Go.RowKit Go.Proofs.YtdjkmnkgaacmfaaW.PrintWords Go.Proofs.YtdjkmnkgaacmfaaW.PrintLast Go.Proofs.YtdjkmnkgaacmfaaW.PrintMore
open Go.Proofs.YtdjkmnkgaacmfaaW.PrintWords renaming Aside0.mk → O
attribute [local go_sem] max2_int min2_int max_two min_two max_three min_three max_four min_four
set_option linter.unusedVariables false
set_option linter.unusedSimpArgs false
mutual
def spec_l2Copy.l0 : Nat → List (S61) → Int → List (S61) → Int → Option ((List (S61)))
 | 0,_,_,_,_=>none
 | k + 1,x0,x1,x5,x6=>if x6 < (x0.length : Int) then (spec_l2Copy.j1 k x0 x1 x5 x6 (decide (x1 > 0))) else (spec_l2Copy.j1 k x0 x1 x5 x6 false)
def spec_l2Copy.j1 : Nat → List (S61) → Int → List (S61) → Int → Bool → Option ((List (S61)))
 | 0,_,_,_,_,_=>none
 | k + 1,x0,x1,x5,x6,x16=>if x16 = true then (if 0 ≤ x6 then (if x6 < (x0.length : Int) then ((spec_l2Copy.f k ((rd_T61 x0 x6).f4) (wrap64 (x1 - 1))).bind fun t161=>((spec_l2Copy.f k ((rd_T61 x0 x6).f5) (wrap64 (x1 - 1))).bind fun t164=>(if x5.length < 1759218604441 then (spec_l2Copy.l0 k x0 x1 (x5 ++ [(⟨(rd_T61 x0 x6).f0,(rd_T61 x0 x6).f1,(rd_T61 x0 x6).f2,(rd_T61 x0 x6).f3,t161,t164⟩ : S61)]) (wrap64 (x6 + 1))) else (none)))) else (none)) else (none)) else (some x5)
def spec_l2Copy.f : Nat → List (S61) → Int → Option ((List (S61)))
 | 0,_,_=>none
 | k + 1,l0,a1=>spec_l2Copy.l0 k l0 a1 (([] : List (S61))) 0
end
set_option maxHeartbeats 8000000 in
set_option maxRecDepth 100000 in
theorem spec_l2Copy.calls (k : Nat) : ∀ (A0 : Option Addr) (c0 : Nat) (l0 : List (S61)) (a1 : Int) (r : List (S61)) (w : World) (hr0 : Kd.C k61 w A0 l0.length l0) (hc0 : l0.length ≤ c0) (h : spec_l2Copy.f k l0 a1 = some r),
  Calls Try.prog 35 #[.slice A0 l0.length c0,.int .i64 a1] w fun e w'=>∃ v0_ : Value,e = .returned (v0_) ∧ Kd.R k61 61 w' w.heap.size (fun _=>True) v0_ r ∧ Below w.heap.size w w':=by
 induction k using Nat.strongRecOn with
 | _ k ih =>
 intro A0 c0 l0 a1 r w hr0 hc0 h
 cases k with
 | zero=>exact absurd h (by simp [spec_l2Copy.f])
 | succ k =>
 simp only [spec_l2Copy.f] at h;have hu61:=Try.underlying61;have HR0:=O hr0;have HC0:=O hc0;clear hr0 hc0;have HB:=O (Below.refl w.heap.size w);have H : (spec_l2Copy.l0 k l0 a1 (([] : List (S61))) 0) = some r:=h;clear h;obtain ⟨y156,hy156⟩ : ∃ y_ : List (S61),y_ = (([] : List (S61))):=⟨_,rfl⟩
 replace H : (spec_l2Copy.l0 k l0 a1 y156 0) = some r:=by first | (rw [hy156];with_reducible exact H) | (have H2_:=(Option.bind_some _ _).symm.trans H;rw [hy156];with_reducible exact H2_) | (have H2_:=(Option.bind_some _ _).symm.trans H;with_reducible exact H2_) | with_reducible exact H | (rw [hy156];exact H) | exact H
 have Ny156:=O hy156;clear hy156;have H':=O H;clear H;go_enter Try.func35,Try.ntmps35
 go_wp2_with (first | ((with_reducible refine gate_dst (N:=8) rfl ?_);refine Kd.R_lit k61 _ 61 ?hg (N:=8) ?hd (xs:=([] : List (S61))) (inner:=[]) (ok:=fun _=>True) (okp:=fun _=>True) ?hr ?hp (fun _ hk=>hk) trivial (Below.refl _ _) (Nat.le_refl _) (by simp) ?_;(case hd=>rfl);(case hg=>rfl);(case hr=>first | (go_simp;done) | (go_simp;rfl));(case hp=>exact (Reps.none _ _));intro v157 w3 ho4 hb hg_ hnew_;clear hg_ hnew_;(first | rw [← Ny156.out] at ho4 | (simp only [Int.reduceToNat] at ho4;rw [← Ny156.out] at ho4));have n0_:=O (Kd.R_lower ho4 (below_size (q0_ HB)));have n1_:=O (below_step (q0_ HB) hb);clear HB;have HO158:=n0_;have HB:=n1_;clear n0_ n1_ hb ho4))
 go_loopg [5,6] k (fun kq v5 v6 w'=>∃ (x5_1 : List (S61)) (x6_1 : Int),v6 = .int .i64 x6_1 ∧ Aside0 (spec_l2Copy.l0 kq l0 a1 x5_1 x6_1 = some r) ∧ Aside0 (kq ≤ k) ∧ Aside0 (Kd.R k61 61 w' w.heap.size (fun _=>True) v5 x5_1) ∧ Aside0 (Below w.heap.size w w'))
 case atStart=>exact ⟨(y156),(0),(by first | rfl | (simp;done) | (simp [*];done)),H',⟨Nat.le_refl _⟩,⟨by (with_reducible repeat (first | apply Kd.R_alloc | apply Kd.R_drewN | apply Kd.R_drew));exact HO158.out⟩,⟨by repeat (first | (with_reducible first | exact HB.out | apply below_alloc | apply pw_below_drewN | apply below_drew1) | exact HB.out)⟩⟩
 case round =>
  clear H';(try clear p2);(try clear c3);obtain ⟨x5_1,x6_1,rfl,HA,HK1,HO_5,HB⟩:=hrel
  cases gk with
  | zero=>exact absurd HA.out (by simp [spec_l2Copy.l0])
  | succ k1 =>
   have H:=HA.out;clear HA;simp only [spec_l2Copy.l0] at H;have HC5:=O H;clear H
   go_upto_region 3 with (fail)
   go_cut [16] (fun v16 wc=>∃ (kq : Nat) (x16_4 : Bool),v16 = .bool x16_4 ∧ Aside0 (spec_l2Copy.j1 kq l0 a1 x5_1 x6_1 x16_4 = some r) ∧ Aside0 (kq ≤ k1) ∧ Aside0 (Kd.R k61 61 wc w.heap.size (fun _=>True) u5 x5_1) ∧ Aside0 (Below w.heap.size w wc))
   case first =>
    have H:=HC5.out;clear HC5
    by_cases c6 : x6_1 < (l0.length : Int)
    ·rw [if_pos c6] at H;have c6b0 : decide (x6_1 < (l0.length : Int)) = true:=decide_eq_true c6;clear c6
     (first | rw [c6b0] | (simp only [i64_w,i32_w];rw [c6b0]) | skip)
     have H':=O H;clear H
     go_wp2
     go_meet
     case rel=>exact ⟨_,(decide (a1 > 0)),(by first | rfl | (simp;done) | (simp [*];done)),H',⟨by have:=HK1.out;first | omega | exact Nat.le_refl _⟩,⟨by (with_reducible repeat (first | apply Kd.R_alloc | apply Kd.R_drewN | apply Kd.R_drew));exact HO_5.out⟩,⟨by repeat (first | (with_reducible first | exact HB.out | apply below_alloc | apply pw_below_drewN | apply below_drew1) | exact HB.out)⟩⟩
    ·rw [if_neg c6] at H;have c6b0 : decide (x6_1 < (l0.length : Int)) = false:=decide_eq_false c6;clear c6
     (first | rw [c6b0] | (simp only [i64_w,i32_w];rw [c6b0]) | skip)
     have H':=O H;clear H
     go_wp2
     go_meet
     case rel=>exact ⟨_,(false),(by first | rfl | (simp;done) | (simp [*];done)),H',⟨by have:=HK1.out;first | omega | exact Nat.le_refl _⟩,⟨by (with_reducible repeat (first | apply Kd.R_alloc | apply Kd.R_drewN | apply Kd.R_drew));exact HO_5.out⟩,⟨by repeat (first | (with_reducible first | exact HB.out | apply below_alloc | apply pw_below_drewN | apply below_drew1) | exact HB.out)⟩⟩
   case rest =>
    clear HC5;(try clear p2);(try clear c3);(try clear c6);(try clear c6b0);(try clear p2);obtain ⟨kq,x16_4,rfl,HA,HJ4,HO_5,HB⟩:=hcut
    cases kq with
    | zero=>exact absurd HA.out (by simp [spec_l2Copy.j1])
    | succ kj4 =>
     have H:=HA.out;clear HA;simp only [spec_l2Copy.j1] at H
     by_cases c7 : x16_4 = true
     ·subst c7
      have H1 : (if 0 ≤ x6_1 then (if x6_1 < (l0.length : Int) then ((spec_l2Copy.f kj4 ((rd_T61 l0 x6_1).f4) (wrap64 (a1 - 1))).bind fun t161=>((spec_l2Copy.f kj4 ((rd_T61 l0 x6_1).f5) (wrap64 (a1 - 1))).bind fun t164=>(if x5_1.length < 1759218604441 then (spec_l2Copy.l0 kj4 l0 a1 (x5_1 ++ [(⟨(rd_T61 l0 x6_1).f0,(rd_T61 l0 x6_1).f1,(rd_T61 l0 x6_1).f2,(rd_T61 l0 x6_1).f3,t161,t164⟩ : S61)]) (wrap64 (x6_1 + 1))) else (none)))) else (none)) else (none)) = some r:=by rw [if_pos rfl] at H;exact H
      clear H;have H:=H1;clear H1
      by_cases c8 : 0 ≤ x6_1
      ·rw [if_pos c8] at H;have c8b0 : decide (0 ≤ x6_1) = true:=decide_eq_true c8;clear c8
       by_cases c9 : x6_1 < (l0.length : Int)
       ·rw [if_pos c9] at H;have c9b0 : decide (x6_1 < (l0.length : Int)) = true:=decide_eq_true c9;clear c9;replace H:=Option.bind_eq_some_iff.mp H;obtain ⟨t161,A100,H⟩:=H;replace H : ((spec_l2Copy.f kj4 ((rd_T61 l0 x6_1).f5) (wrap64 (a1 - 1))).bind fun t164=>(if x5_1.length < 1759218604441 then (spec_l2Copy.l0 kj4 l0 a1 (x5_1 ++ [(⟨(rd_T61 l0 x6_1).f0,(rd_T61 l0 x6_1).f1,(rd_T61 l0 x6_1).f2,(rd_T61 l0 x6_1).f3,t161,t164⟩ : S61)]) (wrap64 (x6_1 + 1))) else (none))) = some r:=H;have A10:=O A100;clear A100;replace H:=Option.bind_eq_some_iff.mp H;obtain ⟨t164,A110,H⟩:=H;replace H : (if x5_1.length < 1759218604441 then (spec_l2Copy.l0 kj4 l0 a1 (x5_1 ++ [(⟨(rd_T61 l0 x6_1).f0,(rd_T61 l0 x6_1).f1,(rd_T61 l0 x6_1).f2,(rd_T61 l0 x6_1).f3,t161,t164⟩ : S61)]) (wrap64 (x6_1 + 1))) else (none)) = some r:=H;have A11:=O A110;clear A110
        by_cases c12 : x5_1.length < 1759218604441
        ·rw [if_pos c12] at H;have LMc12:=O c12;clear c12;obtain ⟨y167,hy167⟩ : ∃ y_ : List (S61),y_ = (x5_1 ++ [(⟨(rd_T61 l0 x6_1).f0,(rd_T61 l0 x6_1).f1,(rd_T61 l0 x6_1).f2,(rd_T61 l0 x6_1).f3,t161,t164⟩ : S61)]):=⟨_,rfl⟩
         replace H : (spec_l2Copy.l0 kj4 l0 a1 y167 (wrap64 (x6_1 + 1))) = some r:=by first | (rw [hy167];with_reducible exact H) | (have H2_:=(Option.bind_some _ _).symm.trans H;rw [hy167];with_reducible exact H2_) | (have H2_:=(Option.bind_some _ _).symm.trans H;with_reducible exact H2_) | with_reducible exact H | (rw [hy167];exact H) | exact H
         have Ny167:=O hy167;clear hy167;have H':=O H;clear H
         have p159 : 0 ≤ (x6_1 : Int):=of_decide_eq_true (by first | (with_reducible assumption) | assumption)
         have q159 : x6_1 < (l0.length : Int):=of_decide_eq_true (by first | (with_reducible assumption) | assumption)
         obtain ⟨ad159,A159_4,c159_4,A159_5,c159_5,e159,hx159_0,hx159_1,hx159_2,hx159_3,hx159_4,hx159_5,hl159_4,hi159_4,hl159_5,hi159_5⟩:=at_T61 HR0.out x6_1 p159 q159
         cases e159
         replace hx159_0:=(HB.out.cell (World.block_lt_of_cell? w _ hx159_0)).trans hx159_0;replace hx159_1:=(HB.out.cell (World.block_lt_of_cell? w _ hx159_1)).trans hx159_1;replace hx159_2:=(HB.out.cell (World.block_lt_of_cell? w _ hx159_2)).trans hx159_2;replace hx159_3:=(HB.out.cell (World.block_lt_of_cell? w _ hx159_3)).trans hx159_3;replace hx159_4:=(HB.out.cell (World.block_lt_of_cell? w _ hx159_4)).trans hx159_4;replace hx159_5:=(HB.out.cell (World.block_lt_of_cell? w _ hx159_5)).trans hx159_5;have HR159_4:=O hi159_4;have HC159_4:=O hl159_4;clear hi159_4 hl159_4;have HR159_5:=O hi159_5;have HC159_5:=O hl159_5;clear hi159_5 hl159_5;replace p159:=eq_true p159;replace q159:=eq_true q159
         go_wp2_with (first | ((with_reducible refine gate_dst (N:=7) rfl ?_);refine box_event ?hg (N:=7) ?hd (cs:=#[.int .i64 0,.int .i64 0,.int .i64 0,.int .i64 0,.slice none 0 0,.slice none 0 0]) (t:=61) ?hr ?_;(case hd=>rfl);(case hg=>rfl);(case hr=>first | (go_simp;done) | (go_simp;rfl));intro gb160 hg w13 hbox hb;have n0_:=O (Kd.R_below (Kd.R_elderB (q6_ HO_5) gb160 (Nat.le_of_eq hg.symm)) hb);have n1_:=O (below_step (q0_ HB) hb);have n2_:=O (hbox);have n3_:=O ((by rw [hg];exact (below_size (q0_ HB)) : w.heap.size ≤ gb160));have n4_:=O ((by rw [hg];exact (below_size (q0_ HB)) : w.heap.size ≤ gb160));clear HO_5 HB;have HO_5:=n0_;have HB:=n1_;have BK160:=n2_;have GW160:=n3_;have GE160:=n4_;clear n0_ n1_ n2_ n3_ n4_ hb hbox hg;obtain ⟨hcz14_0,hcz14_1,hcz14_2,hcz14_3,hcz14_4,hcz14_5,hfz14_0,hfz14_1,hfz14_2,hfz14_3,hfz14_4,hfz14_5⟩:=bz6_ BK160) | ((with_reducible refine gate_callee (f:=35) rfl ?_);refine goesM_ (some 27) Try.func35 #[.slice A159_4 ((rd_T61 l0 x6_1).f4).length c159_4,.int .i64 (wrap64 (a1 - 1))] ?_;(with_reducible refine (ih kj4 (by have:=HK1.out;have:=HJ4.out;omega) _ _ ((rd_T61 l0 x6_1).f4) (wrap64 (a1 - 1)) t161 _ ?side1 ?side2 A10.out).mono ?_);(case side1=>exact Kd.C_below HR159_4.out (q2_ HB GE160));(case side2=>exact HC159_4.out);rintro e w15 ⟨v162,rfl,ho0,hb⟩;refine ⟨_,rfl,?_⟩;have n0_:=O (Kd.R_elder' (by (with_reducible repeat (first | apply Kd.R_alloc | apply Kd.R_drewN | apply Kd.R_drew));exact (Kd.R_mono (Kd.R_far (p:=⟨gb160,5,none⟩) (Kd.R_far (p:=⟨gb160,4,none⟩) (Kd.R_far (p:=⟨gb160,3,none⟩) (Kd.R_far (p:=⟨gb160,2,none⟩) (Kd.R_far (p:=⟨gb160,1,none⟩) (Kd.R_far (p:=⟨gb160,0,none⟩) (Kd.R_mono HO_5.out (fun k_ hk=>(⟨hk,hk.2⟩ : _ ∧ k_ ≠ gb160))) (fun _ hk=>hk.2) (.int .i64 ((rd_T61 l0 x6_1).f0))) (fun _ hk=>hk.2) (.int .i64 ((rd_T61 l0 x6_1).f1))) (fun _ hk=>hk.2) (.int .i64 ((rd_T61 l0 x6_1).f2))) (fun _ hk=>hk.2) (.int .i64 ((rd_T61 l0 x6_1).f3))) (fun _ hk=>hk.2) (.slice A159_4 ((rd_T61 l0 x6_1).f4).length c159_4)) (fun _ hk=>hk.2) (.slice A159_5 ((rd_T61 l0 x6_1).f5).length c159_5)) (fun _ h_=>h_.1))) (Kd.R_base ho0) hb);have n1_:=O (Kd.R_lower (Kd.R_newB (Kd.R_new' ho0 (Kd.R_lt (by (with_reducible repeat (first | apply Kd.R_alloc | apply Kd.R_drewN | apply Kd.R_drew));exact (Kd.R_mono (Kd.R_far (p:=⟨gb160,5,none⟩) (Kd.R_far (p:=⟨gb160,4,none⟩) (Kd.R_far (p:=⟨gb160,3,none⟩) (Kd.R_far (p:=⟨gb160,2,none⟩) (Kd.R_far (p:=⟨gb160,1,none⟩) (Kd.R_far (p:=⟨gb160,0,none⟩) (Kd.R_mono HO_5.out (fun k_ hk=>(⟨hk,hk.2⟩ : _ ∧ k_ ≠ gb160))) (fun _ hk=>hk.2) (.int .i64 ((rd_T61 l0 x6_1).f0))) (fun _ hk=>hk.2) (.int .i64 ((rd_T61 l0 x6_1).f1))) (fun _ hk=>hk.2) (.int .i64 ((rd_T61 l0 x6_1).f2))) (fun _ hk=>hk.2) (.int .i64 ((rd_T61 l0 x6_1).f3))) (fun _ hk=>hk.2) (.slice A159_4 ((rd_T61 l0 x6_1).f4).length c159_4)) (fun _ hk=>hk.2) (.slice A159_5 ((rd_T61 l0 x6_1).f5).length c159_5)) (fun _ h_=>h_.1))))) (g:=gb160) (o:=.cells #[.int .i64 ((rd_T61 l0 x6_1).f0),.int .i64 ((rd_T61 l0 x6_1).f1),.int .i64 ((rd_T61 l0 x6_1).f2),.int .i64 ((rd_T61 l0 x6_1).f3),.slice A159_4 ((rd_T61 l0 x6_1).f4).length c159_4,.slice A159_5 ((rd_T61 l0 x6_1).f5).length c159_5] 61 (0,0)) (by (with_reducible repeat (first | refine blk_drewN ?_ _ | refine blk_drew ?_ | refine blk_alloc ?_ _));apply bp6_5_;(with_reducible repeat (first | refine blk_drewN ?_ _ | refine blk_drew ?_ | refine blk_alloc ?_ _));apply bp6_4_;(with_reducible repeat (first | refine blk_drewN ?_ _ | refine blk_drew ?_ | refine blk_alloc ?_ _));apply bp6_3_;(with_reducible repeat (first | refine blk_drewN ?_ _ | refine blk_drew ?_ | refine blk_alloc ?_ _));apply bp6_2_;(with_reducible repeat (first | refine blk_drewN ?_ _ | refine blk_drew ?_ | refine blk_alloc ?_ _));apply bp6_1_;(with_reducible repeat (first | refine blk_drewN ?_ _ | refine blk_drew ?_ | refine blk_alloc ?_ _));apply bp6_0_;(with_reducible repeat (first | refine blk_drewN ?_ _ | refine blk_drew ?_ | refine blk_alloc ?_ _));exact BK160.out)) (below_size (q2_ HB GE160)));have n2_:=O (blk_below (g:=gb160) (o:=.cells #[.int .i64 ((rd_T61 l0 x6_1).f0),.int .i64 ((rd_T61 l0 x6_1).f1),.int .i64 ((rd_T61 l0 x6_1).f2),.int .i64 ((rd_T61 l0 x6_1).f3),.slice A159_4 ((rd_T61 l0 x6_1).f4).length c159_4,.slice A159_5 ((rd_T61 l0 x6_1).f5).length c159_5] 61 (0,0)) (by (with_reducible repeat (first | refine blk_drewN ?_ _ | refine blk_drew ?_ | refine blk_alloc ?_ _));apply bp6_5_;(with_reducible repeat (first | refine blk_drewN ?_ _ | refine blk_drew ?_ | refine blk_alloc ?_ _));apply bp6_4_;(with_reducible repeat (first | refine blk_drewN ?_ _ | refine blk_drew ?_ | refine blk_alloc ?_ _));apply bp6_3_;(with_reducible repeat (first | refine blk_drewN ?_ _ | refine blk_drew ?_ | refine blk_alloc ?_ _));apply bp6_2_;(with_reducible repeat (first | refine blk_drewN ?_ _ | refine blk_drew ?_ | refine blk_alloc ?_ _));apply bp6_1_;(with_reducible repeat (first | refine blk_drewN ?_ _ | refine blk_drew ?_ | refine blk_alloc ?_ _));apply bp6_0_;(with_reducible repeat (first | refine blk_drewN ?_ _ | refine blk_drew ?_ | refine blk_alloc ?_ _));exact BK160.out) hb);have n3_:=O (below_step (q2_ HB GE160) hb);clear HO_5 BK160 HB;have HO_5:=n0_;have HO163:=n1_;have BK160:=n2_;have HB:=n3_;clear n0_ n1_ n2_ n3_;(try clear hb);(try clear hk);(try clear ho0);obtain ⟨Ao16,co16,eo16⟩:=Kd.R_slice HO163.out;subst eo16;obtain ⟨hcz17_0,hcz17_1,hcz17_2,hcz17_3,hcz17_4,hcz17_5,hfz17_0,hfz17_1,hfz17_2,hfz17_3,hfz17_4,hfz17_5⟩:=bz6_ BK160) | ((with_reducible refine gate_callee (f:=35) rfl ?_);refine goesM_ (some 33) Try.func35 #[.slice A159_5 ((rd_T61 l0 x6_1).f5).length c159_5,.int .i64 (wrap64 (a1 - 1))] ?_;(with_reducible refine (ih kj4 (by have:=HK1.out;have:=HJ4.out;omega) _ _ ((rd_T61 l0 x6_1).f5) (wrap64 (a1 - 1)) t164 _ ?side1 ?side2 A11.out).mono ?_);(case side1=>exact Kd.C_below HR159_5.out (q2_ HB GE160));(case side2=>exact HC159_5.out);rintro e w18 ⟨v165,rfl,ho0,hb⟩;refine ⟨_,rfl,?_⟩;have n0_:=O (Kd.R_elder' (by (with_reducible repeat (first | apply Kd.R_alloc | apply Kd.R_drewN | apply Kd.R_drew));exact (Kd.R_mono (Kd.R_far (p:=⟨gb160,4,none⟩) (Kd.R_mono HO_5.out (fun k_ hk=>(⟨hk,hk.1.2⟩ : _ ∧ k_ ≠ gb160))) (fun _ hk=>hk.2) (.slice Ao16 t161.length co16)) (fun _ h_=>h_.1))) (Kd.R_base ho0) hb);have n1_:=O (Kd.R_elder' (by (with_reducible repeat (first | apply Kd.R_alloc | apply Kd.R_drewN | apply Kd.R_drew));exact (Kd.R_mono (Kd.R_far (p:=⟨gb160,4,none⟩) (Kd.R_mono HO163.out (fun k_ hk=>(⟨hk,hk.2⟩ : _ ∧ k_ ≠ gb160))) (fun _ hk=>hk.2) (.slice Ao16 t161.length co16)) (fun _ h_=>h_.1))) (Kd.R_base ho0) hb);have n2_:=O (Kd.R_lower (Kd.R_newB (Kd.R_new' (Kd.R_new' ho0 (Kd.R_lt (by (with_reducible repeat (first | apply Kd.R_alloc | apply Kd.R_drewN | apply Kd.R_drew));exact (Kd.R_mono (Kd.R_far (p:=⟨gb160,4,none⟩) (Kd.R_mono HO_5.out (fun k_ hk=>(⟨hk,hk.1.2⟩ : _ ∧ k_ ≠ gb160))) (fun _ hk=>hk.2) (.slice Ao16 t161.length co16)) (fun _ h_=>h_.1))))) (Kd.R_lt (by (with_reducible repeat (first | apply Kd.R_alloc | apply Kd.R_drewN | apply Kd.R_drew));exact (Kd.R_mono (Kd.R_far (p:=⟨gb160,4,none⟩) (Kd.R_mono HO163.out (fun k_ hk=>(⟨hk,hk.2⟩ : _ ∧ k_ ≠ gb160))) (fun _ hk=>hk.2) (.slice Ao16 t161.length co16)) (fun _ h_=>h_.1))))) (g:=gb160) (o:=.cells #[.int .i64 ((rd_T61 l0 x6_1).f0),.int .i64 ((rd_T61 l0 x6_1).f1),.int .i64 ((rd_T61 l0 x6_1).f2),.int .i64 ((rd_T61 l0 x6_1).f3),.slice Ao16 t161.length co16,.slice A159_5 ((rd_T61 l0 x6_1).f5).length c159_5] 61 (0,0)) (q13_ BK160)) (below_size (q2_ HB GE160)));have n3_:=O (blk_below (g:=gb160) (o:=.cells #[.int .i64 ((rd_T61 l0 x6_1).f0),.int .i64 ((rd_T61 l0 x6_1).f1),.int .i64 ((rd_T61 l0 x6_1).f2),.int .i64 ((rd_T61 l0 x6_1).f3),.slice Ao16 t161.length co16,.slice A159_5 ((rd_T61 l0 x6_1).f5).length c159_5] 61 (0,0)) (q13_ BK160) hb);have n4_:=O (below_step (q2_ HB GE160) hb);clear HO_5 HO163 BK160 HB;have HO_5:=n0_;have HO163:=n1_;have HO166:=n2_;have BK160:=n3_;have HB:=n4_;clear n0_ n1_ n2_ n3_ n4_;(try clear hb);(try clear hk);(try clear ho0);obtain ⟨Ao19,co19,eo19⟩:=Kd.R_slice HO166.out;subst eo19;obtain ⟨hcz20_0,hcz20_1,hcz20_2,hcz20_3,hcz20_4,hcz20_5,hfz20_0,hfz20_1,hfz20_2,hfz20_3,hfz20_4,hfz20_5⟩:=bz6_ BK160) | ((with_reducible refine gate_store (t:=41) (p:=34) rfl ?_);refine store_event (t:=41) (p:=34) (v:=?vo_w21) (w1:=(w18.setCell ⟨gb160,5,none⟩ (.slice Ao19 t164.length co19))) ?hg ?ho ?hn ?hr ?_;(case ho=>rfl);(case hg=>rfl);(case hn=>rfl);(case hr=>first | (go_simp;done) | (go_simp;rfl));intro w21 hw;have n0_ : Aside0 (Kd.R k61 61 w21 w.heap.size (fun k_=>some k_ ≠ (.slice Ao16 t161.length co16 : Value).ownBlock ∧ some k_ ≠ (.slice Ao19 t164.length co19 : Value).ownBlock ∧ k_ ≠ gb160) u5 x5_1):=⟨(by rw [hw];exact (by (with_reducible repeat (first | apply Kd.R_alloc | apply Kd.R_drewN | apply Kd.R_drew));exact Kd.R_mono (Kd.R_far (p:=⟨gb160,5,none⟩) (Kd.R_mono HO_5.out (fun k_ hk=>(⟨hk,hk.1.1.2⟩ : _ ∧ k_ ≠ gb160))) (fun _ hk=>hk.2) (.slice Ao19 t164.length co19)) (fun _ hk=>⟨hk.1.1.2,⟨hk.1.2,hk.1.1.1.2⟩⟩)))⟩;have n1_ : Aside0 (Kd.R k61 61 w21 w.heap.size (fun k_=>some k_ ≠ (u5 : Value).ownBlock ∧ some k_ ≠ (.slice Ao19 t164.length co19 : Value).ownBlock ∧ k_ ≠ gb160) (.slice Ao16 t161.length co16) t161):=⟨(by rw [hw];exact (by (with_reducible repeat (first | apply Kd.R_alloc | apply Kd.R_drewN | apply Kd.R_drew));exact Kd.R_mono (Kd.R_far (p:=⟨gb160,5,none⟩) (Kd.R_mono HO163.out (fun k_ hk=>(⟨hk,hk.1.2⟩ : _ ∧ k_ ≠ gb160))) (fun _ hk=>hk.2) (.slice Ao19 t164.length co19)) (fun _ hk=>⟨hk.1.1.1.2,⟨hk.1.2,hk.1.1.2⟩⟩)))⟩;have n2_ : Aside0 (Kd.R k61 61 w21 w.heap.size (fun k_=>some k_ ≠ (u5 : Value).ownBlock ∧ some k_ ≠ (.slice Ao16 t161.length co16 : Value).ownBlock ∧ k_ ≠ gb160) (.slice Ao19 t164.length co19) t164):=⟨(by rw [hw];exact (by (with_reducible repeat (first | apply Kd.R_alloc | apply Kd.R_drewN | apply Kd.R_drew));exact Kd.R_mono (Kd.R_far (p:=⟨gb160,5,none⟩) (Kd.R_mono HO166.out (fun k_ hk=>(⟨hk,hk.2⟩ : _ ∧ k_ ≠ gb160))) (fun _ hk=>hk.2) (.slice Ao19 t164.length co19)) (fun _ hk=>⟨hk.1.1.1.2,⟨hk.1.1.2,hk.1.2⟩⟩)))⟩;have n3_ : Aside0 (w21.heap[gb160]? = some (.cells #[.int .i64 ((rd_T61 l0 x6_1).f0),.int .i64 ((rd_T61 l0 x6_1).f1),.int .i64 ((rd_T61 l0 x6_1).f2),.int .i64 ((rd_T61 l0 x6_1).f3),.slice Ao16 t161.length co16,.slice Ao19 t164.length co19] 61 (0,0))):=⟨(by rw [hw];exact (by (with_reducible repeat (first | refine blk_drewN ?_ _ | refine blk_drew ?_ | refine blk_alloc ?_ _));apply bp6_5_;(with_reducible repeat (first | refine blk_drewN ?_ _ | refine blk_drew ?_ | refine blk_alloc ?_ _));exact BK160.out))⟩;have n4_ : Aside0 (Below w.heap.size w w21):=⟨(by rw [hw];exact (q2_ HB GE160))⟩;clear hw HO_5 HO163 HO166 BK160 HB;have HO_5:=n0_;have HO163:=n1_;have HO166:=n2_;have BK160:=n3_;have HB:=n4_;clear n0_ n1_ n2_ n3_ n4_;obtain ⟨hcz22_0,hcz22_1,hcz22_2,hcz22_3,hcz22_4,hcz22_5,hfz22_0,hfz22_1,hfz22_2,hfz22_3,hfz22_4,hfz22_5⟩:=bz6_ BK160) | ((with_reducible refine gate_builtin (b:=.append) (xs:=#[.tmp 35,.tmp 37]) rfl ?_);at_builtin;refine Kd.R_append k61 (w0:=w) w.heap.size rfl (.tmp 35) (.tmp 37) 41 61 (.agg #[(.int .i64 0),(.int .i64 0),(.int .i64 0),(.int .i64 0),(.slice none 0 0),(.slice none 0 0)]) 80 rfl Try.underlying41 info61 rfl (by decide) (by omega) u5 x5_1 (⟨(rd_T61 l0 x6_1).f0,(rd_T61 l0 x6_1).f1,(rd_T61 l0 x6_1).f2,(rd_T61 l0 x6_1).f3,t161,t164⟩ : S61) [.int .i64 ((rd_T61 l0 x6_1).f0),.int .i64 ((rd_T61 l0 x6_1).f1),.int .i64 ((rd_T61 l0 x6_1).f2),.int .i64 ((rd_T61 l0 x6_1).f3),.slice Ao16 t161.length co16,.slice Ao19 t164.length co19] (fun k_=>k_ ≠ gb160) (fun k_=>((fun k_=>k_ ≠ gb160)) k_ ∧ some k_ ≠ (u5 : Value).ownBlock) rfl rfl ?aP (fun _ hk=>hk) ?aF ?aO ?aB ?aS ?aL ?_;(case aP=>exact k61_mkM _ _ _ (⟨(rd_T61 l0 x6_1).f0,(rd_T61 l0 x6_1).f1,(rd_T61 l0 x6_1).f2,(rd_T61 l0 x6_1).f3,t161,t164⟩ : S61) (Kd.R_mono (HO163.out) (fun k_ hk=>⟨hk.2.2,hk.1⟩)) (Kd.R_mono (HO166.out) (fun k_ hk=>⟨hk.2.2,hk.1⟩)));(case aB=>exact q2_ HB GE160);(case aF=>exact (fun k_ hk=>Kd.freshB (g:=gb160) (o:=.cells #[.int .i64 ((rd_T61 l0 x6_1).f0),.int .i64 ((rd_T61 l0 x6_1).f1),.int .i64 ((rd_T61 l0 x6_1).f2),.int .i64 ((rd_T61 l0 x6_1).f3),.slice Ao16 t161.length co16,.slice Ao19 t164.length co19] 61 (0,0)) (q1_ BK160) k_ hk));(case aO=>exact (by (with_reducible repeat (first | apply Kd.R_alloc | apply Kd.R_drewN | apply Kd.R_drew));exact Kd.R_mono HO_5.out (fun _ hk=>hk.2.2)));(case aS=>exact (below_size (q2_ HB GE160)));(case aL=>have:=LMc12.out;omega);intro v168 w23 ho hb hg hat;rw [← Ny167.out] at ho;have n0_:=O (blk_grown (g:=gb160) (o:=.cells #[.int .i64 ((rd_T61 l0 x6_1).f0),.int .i64 ((rd_T61 l0 x6_1).f1),.int .i64 ((rd_T61 l0 x6_1).f2),.int .i64 ((rd_T61 l0 x6_1).f3),.slice Ao16 t161.length co16,.slice Ao19 t164.length co19] 61 (0,0)) (q1_ BK160) hg (Kd.R_away HO_5.out (fun _ hk=>hk.2.2)));have n1_:=O (hb);have n2_:=O (ho);clear BK160 HB HO_5 HO163 HO166;have BK160:=n0_;have HB:=n1_;have HO169:=n2_;clear n0_ n1_ n2_ ho hb hg hat))
         go_roundg kj4
         case measure=>have:=HK1.out;have:=HJ4.out;omega
         case rel=>exact ⟨(y167),(wrap64 (x6_1 + 1)),(by first | rfl | (simp;done) | (simp [*];done)),H',⟨by have:=HK1.out;have:=HJ4.out;omega⟩,⟨by (with_reducible repeat (first | apply Kd.R_alloc | apply Kd.R_drewN | apply Kd.R_drew));exact Kd.R_mono HO169.out (fun _ hk=>trivial)⟩,⟨by repeat (first | (with_reducible first | exact HB.out | apply below_alloc | apply pw_below_drewN | apply below_drew1 | refine below_set ?_ GE160.out) | exact HB.out)⟩⟩
        ·rw [if_neg c12] at H
         exact absurd H (by simp)
       ·rw [if_neg c9] at H
        exact absurd H (by simp)
      ·rw [if_neg c8] at H
       exact absurd H (by simp)
     ·replace c7:=Bool.eq_false_iff.mpr c7;subst c7
      have H1 : (some x5_1) = some r:=by rw [if_neg (show ¬ (false = true) by decide)] at H;exact H
      clear H;have H:=H1;clear H1;obtain rfl:=Option.some.inj H
      go_wp2
      go_ret
      exact ⟨_,by first | rfl | (simp [errW_none,errW_some] <;> rfl) | (simp [*,errW_none,errW_some] <;> rfl),by (with_reducible repeat (first | apply Kd.R_alloc | apply Kd.R_drewN | apply Kd.R_drew));exact HO_5.out,by repeat (first | (with_reducible first | exact HB.out | apply below_alloc | apply pw_below_drewN | apply below_drew1) | exact HB.out)⟩
end Go.Proofs.Ytdjkmnkgaacmfaa.P

namespace Go.Proofs.Ytdjkmnkgaacmfaa.P
open Go.RowKit Go.Proofs.YtdjkmnkgaacmfaaW.PrintWords Go.Proofs.YtdjkmnkgaacmfaaW.PrintLast Go.Proofs.YtdjkmnkgaacmfaaW.PrintMore
open Go.Proofs.YtdjkmnkgaacmfaaW.PrintWords renaming Aside0.mk → O, Kd.C_alloc → Z, Kd.C_drewN → J, Kd.C_drew → Y, gate_callee → E
attribute [local go_sem] max2_int min2_int max_two min_two max_three min_three max_four min_four
set_option linter.unusedVariables false
set_option linter.unusedSimpArgs false
def laws_heldWorld.f (k : Nat) (l0_0 : List (S59)) (l0_1 : List Int) (l0_2 : List Int) (l0_3 : List (List Int)) (l0_4 : List (S69)) (a1 : Int) : Option (Int):=(laws_heldProcS.f k l0_0 a1).bind fun t382=>(if t382 < 0 then (some (-1)) else ((laws_heldIntS.f k l0_1 t382).bind fun t383=>(if t383 < 0 then (some (-1)) else ((laws_heldIntS.f k l0_2 t383).bind fun t384=>(if t384 < 0 then (some (-1)) else ((laws_heldIntSS.f k l0_3 t384).bind fun t385=>(if t385 < 0 then (some (-1)) else ((laws_heldSayS.f k l0_4 t385).bind fun t386=>(if t386 < 0 then (some (-1)) else (some t386))))))))))
set_option maxHeartbeats 8000000 in
set_option maxRecDepth 100000 in
theorem laws_heldWorld.calls (k : Nat) (A0_0 : Option Addr) (c0_0 : Nat) (l0_0 : List (S59)) (A0_1 : Option Addr) (c0_1 : Nat) (l0_1 : List Int) (A0_2 : Option Addr) (c0_2 : Nat) (l0_2 : List Int) (A0_3 : Option Addr) (c0_3 : Nat) (l0_3 : List (List Int)) (A0_4 : Option Addr) (c0_4 : Nat) (l0_4 : List (S69)) (a1 : Int) (r : Int) (w : World) (hr0_0 : Kd.C k59 w A0_0 l0_0.length l0_0) (hc0_0 : l0_0.length ≤ c0_0) (hr0_1 : Kd.C (Kd.int .i64) w A0_1 l0_1.length l0_1) (hc0_1 : l0_1.length ≤ c0_1) (hr0_2 : Kd.C (Kd.int .i64) w A0_2 l0_2.length l0_2) (hc0_2 : l0_2.length ≤ c0_2) (hr0_3 : Kd.C (Kd.slice 3 (Kd.int .i64)) w A0_3 l0_3.length l0_3) (hc0_3 : l0_3.length ≤ c0_3) (hr0_4 : Kd.C k69 w A0_4 l0_4.length l0_4) (hc0_4 : l0_4.length ≤ c0_4) (h : laws_heldWorld.f k l0_0 l0_1 l0_2 l0_3 l0_4 a1 = some r) :
  Calls Try.prog 12 #[.agg #[.slice A0_0 l0_0.length c0_0,.slice A0_1 l0_1.length c0_1,.slice A0_2 l0_2.length c0_2,.slice A0_3 l0_3.length c0_3,.slice A0_4 l0_4.length c0_4],.int .i64 a1] w fun e w'=>e = .returned (.int .i64 r) ∧ Below w.heap.size w w':=by
 have hu29:=Try.underlying29;have HR0_0:=O hr0_0;have HC0_0:=O hc0_0;clear hr0_0 hc0_0;have HR0_1:=O hr0_1;have HC0_1:=O hc0_1;clear hr0_1 hc0_1;have HR0_2:=O hr0_2;have HC0_2:=O hc0_2;clear hr0_2 hc0_2;have HR0_3:=O hr0_3;have HC0_3:=O hc0_3;clear hr0_3 hc0_3;have HR0_4:=O hr0_4;have HC0_4:=O hc0_4;clear hr0_4 hc0_4;have HB:=O (Below.refl w.heap.size w);have H : ((laws_heldProcS.f k l0_0 a1).bind fun t382=>(if t382 < 0 then (some (-1)) else ((laws_heldIntS.f k l0_1 t382).bind fun t383=>(if t383 < 0 then (some (-1)) else ((laws_heldIntS.f k l0_2 t383).bind fun t384=>(if t384 < 0 then (some (-1)) else ((laws_heldIntSS.f k l0_3 t384).bind fun t385=>(if t385 < 0 then (some (-1)) else ((laws_heldSayS.f k l0_4 t385).bind fun t386=>(if t386 < 0 then (some (-1)) else (some t386))))))))))) = some r:=h;clear h;replace H:=Option.bind_eq_some_iff.mp H;obtain ⟨t382,A30,H⟩:=H;replace H : (if t382 < 0 then (some (-1)) else ((laws_heldIntS.f k l0_1 t382).bind fun t383=>(if t383 < 0 then (some (-1)) else ((laws_heldIntS.f k l0_2 t383).bind fun t384=>(if t384 < 0 then (some (-1)) else ((laws_heldIntSS.f k l0_3 t384).bind fun t385=>(if t385 < 0 then (some (-1)) else ((laws_heldSayS.f k l0_4 t385).bind fun t386=>(if t386 < 0 then (some (-1)) else (some t386)))))))))) = some r:=H;have A3:=O A30;clear A30
 by_cases c4 : t382 < 0
 ·rw [if_pos c4] at H;have c4b0 : decide (t382 < 0) = true:=decide_eq_true c4;clear c4;obtain rfl:=Option.some.inj H;go_enter Try.func12,Try.ntmps12
  go_wp2_with (first | ((with_reducible refine gate_dst (N:=2) rfl ?_);refine box_event ?hg (N:=2) ?hd (cs:=#[.slice A0_0 l0_0.length c0_0,.slice A0_1 l0_1.length c0_1,.slice A0_2 l0_2.length c0_2,.slice A0_3 l0_3.length c0_3,.slice A0_4 l0_4.length c0_4]) (t:=29) ?hr ?_;(case hd=>rfl);(case hg=>rfl);(case hr=>first | (go_simp;done) | (go_simp;rfl));intro gb381 hg w5 hbox hb;have n0_:=O (below_step (q0_ HB) hb);have n1_:=O (hbox);have n2_:=O ((by rw [hg];exact (below_size (q0_ HB)) : w.heap.size ≤ gb381));have n3_:=O ((by rw [hg];exact (below_size (q0_ HB)) : w.heap.size ≤ gb381));clear HB;have HB:=n0_;have BK381:=n1_;have GW381:=n2_;have GE381:=n3_;clear n0_ n1_ n2_ n3_ hb hbox hg;obtain ⟨hcz6_0,hcz6_1,hcz6_2,hcz6_3,hcz6_4,hfz6_0,hfz6_1,hfz6_2,hfz6_3,hfz6_4⟩:=bz5_ BK381) | ((with_reducible refine E (f:=29) rfl ?_);refine goesM_ (some 8) Try.func29 #[.slice A0_0 l0_0.length c0_0,.int .i64 a1] ?_;(with_reducible refine (laws_heldProcS.calls k _ _ l0_0 a1 t382 _ ?side1 ?side2 A3.out).mono ?_);(case side1=>repeat (first | exact (Kd.C_below HR0_0.out HB.out) | (with_reducible refine Z ?_ _) | (with_reducible refine J ?_ _) | (with_reducible refine Y ?_)));(case side2=>exact HC0_0.out);rintro e w' ⟨rfl,⟨nd,rfl⟩⟩;refine ⟨_,rfl,?_⟩))
  go_ret
  exact ⟨by first | rfl | (simp [errW_none,errW_some] <;> rfl) | (simp [*,errW_none,errW_some] <;> rfl),by repeat (first | (with_reducible first | exact HB.out | apply below_alloc | apply pw_below_drewN | apply below_drew1 | refine below_set ?_ GE381.out) | exact HB.out)⟩
 ·rw [if_neg c4] at H;have c4b0 : decide (t382 < 0) = false:=decide_eq_false c4;clear c4;replace H:=Option.bind_eq_some_iff.mp H;obtain ⟨t383,A70,H⟩:=H;replace H : (if t383 < 0 then (some (-1)) else ((laws_heldIntS.f k l0_2 t383).bind fun t384=>(if t384 < 0 then (some (-1)) else ((laws_heldIntSS.f k l0_3 t384).bind fun t385=>(if t385 < 0 then (some (-1)) else ((laws_heldSayS.f k l0_4 t385).bind fun t386=>(if t386 < 0 then (some (-1)) else (some t386)))))))) = some r:=H;have A7:=O A70;clear A70
  by_cases c8 : t383 < 0
  ·rw [if_pos c8] at H;have c8b0 : decide (t383 < 0) = true:=decide_eq_true c8;clear c8;obtain rfl:=Option.some.inj H;go_enter Try.func12,Try.ntmps12
   go_wp2_with (first | ((with_reducible refine gate_dst (N:=2) rfl ?_);refine box_event ?hg (N:=2) ?hd (cs:=#[.slice A0_0 l0_0.length c0_0,.slice A0_1 l0_1.length c0_1,.slice A0_2 l0_2.length c0_2,.slice A0_3 l0_3.length c0_3,.slice A0_4 l0_4.length c0_4]) (t:=29) ?hr ?_;(case hd=>rfl);(case hg=>rfl);(case hr=>first | (go_simp;done) | (go_simp;rfl));intro gb381 hg w9 hbox hb;have n0_:=O (below_step (q0_ HB) hb);have n1_:=O (hbox);have n2_:=O ((by rw [hg];exact (below_size (q0_ HB)) : w.heap.size ≤ gb381));have n3_:=O ((by rw [hg];exact (below_size (q0_ HB)) : w.heap.size ≤ gb381));clear HB;have HB:=n0_;have BK381:=n1_;have GW381:=n2_;have GE381:=n3_;clear n0_ n1_ n2_ n3_ hb hbox hg;obtain ⟨hcz10_0,hcz10_1,hcz10_2,hcz10_3,hcz10_4,hfz10_0,hfz10_1,hfz10_2,hfz10_3,hfz10_4⟩:=bz5_ BK381) | ((with_reducible refine E (f:=29) rfl ?_);refine goesM_ (some 8) Try.func29 #[.slice A0_0 l0_0.length c0_0,.int .i64 a1] ?_;(with_reducible refine (laws_heldProcS.calls k _ _ l0_0 a1 t382 _ ?side1 ?side2 A3.out).mono ?_);(case side1=>repeat (first | exact (Kd.C_below HR0_0.out HB.out) | (with_reducible refine Z ?_ _) | (with_reducible refine J ?_ _) | (with_reducible refine Y ?_)));(case side2=>exact HC0_0.out);rintro e w' ⟨rfl,⟨nd,rfl⟩⟩;refine ⟨_,rfl,?_⟩) | ((with_reducible refine E (f:=30) rfl ?_);refine goesM_ (some 14) Try.func30 #[.slice A0_1 l0_1.length c0_1,.int .i64 t382] ?_;(with_reducible refine (laws_heldIntS.calls k _ _ l0_1 t382 t383 _ ?side1 ?side2 A7.out).mono ?_);(case side1=>repeat (first | exact (Kd.C_below HR0_1.out (q2_ HB GE381)) | (with_reducible refine Z ?_ _) | (with_reducible refine J ?_ _) | (with_reducible refine Y ?_)));(case side2=>exact HC0_1.out);rintro e w' ⟨rfl,⟨nd,rfl⟩⟩;refine ⟨_,rfl,?_⟩))
   go_ret
   exact ⟨by first | rfl | (simp [errW_none,errW_some] <;> rfl) | (simp [*,errW_none,errW_some] <;> rfl),by repeat (first | (with_reducible first | exact HB.out | apply below_alloc | apply pw_below_drewN | apply below_drew1 | refine below_set ?_ GE381.out) | exact HB.out)⟩
  ·rw [if_neg c8] at H;have c8b0 : decide (t383 < 0) = false:=decide_eq_false c8;clear c8;replace H:=Option.bind_eq_some_iff.mp H;obtain ⟨t384,A110,H⟩:=H;replace H : (if t384 < 0 then (some (-1)) else ((laws_heldIntSS.f k l0_3 t384).bind fun t385=>(if t385 < 0 then (some (-1)) else ((laws_heldSayS.f k l0_4 t385).bind fun t386=>(if t386 < 0 then (some (-1)) else (some t386)))))) = some r:=H;have A11:=O A110;clear A110
   by_cases c12 : t384 < 0
   ·rw [if_pos c12] at H;have c12b0 : decide (t384 < 0) = true:=decide_eq_true c12;clear c12;obtain rfl:=Option.some.inj H;go_enter Try.func12,Try.ntmps12
    go_wp2_with (first | ((with_reducible refine gate_dst (N:=2) rfl ?_);refine box_event ?hg (N:=2) ?hd (cs:=#[.slice A0_0 l0_0.length c0_0,.slice A0_1 l0_1.length c0_1,.slice A0_2 l0_2.length c0_2,.slice A0_3 l0_3.length c0_3,.slice A0_4 l0_4.length c0_4]) (t:=29) ?hr ?_;(case hd=>rfl);(case hg=>rfl);(case hr=>first | (go_simp;done) | (go_simp;rfl));intro gb381 hg w13 hbox hb;have n0_:=O (below_step (q0_ HB) hb);have n1_:=O (hbox);have n2_:=O ((by rw [hg];exact (below_size (q0_ HB)) : w.heap.size ≤ gb381));have n3_:=O ((by rw [hg];exact (below_size (q0_ HB)) : w.heap.size ≤ gb381));clear HB;have HB:=n0_;have BK381:=n1_;have GW381:=n2_;have GE381:=n3_;clear n0_ n1_ n2_ n3_ hb hbox hg;obtain ⟨hcz14_0,hcz14_1,hcz14_2,hcz14_3,hcz14_4,hfz14_0,hfz14_1,hfz14_2,hfz14_3,hfz14_4⟩:=bz5_ BK381) | ((with_reducible refine E (f:=29) rfl ?_);refine goesM_ (some 8) Try.func29 #[.slice A0_0 l0_0.length c0_0,.int .i64 a1] ?_;(with_reducible refine (laws_heldProcS.calls k _ _ l0_0 a1 t382 _ ?side1 ?side2 A3.out).mono ?_);(case side1=>repeat (first | exact (Kd.C_below HR0_0.out HB.out) | (with_reducible refine Z ?_ _) | (with_reducible refine J ?_ _) | (with_reducible refine Y ?_)));(case side2=>exact HC0_0.out);rintro e w' ⟨rfl,⟨nd,rfl⟩⟩;refine ⟨_,rfl,?_⟩) | ((with_reducible refine E (f:=30) rfl ?_);refine goesM_ (some 14) Try.func30 #[.slice A0_1 l0_1.length c0_1,.int .i64 t382] ?_;(with_reducible refine (laws_heldIntS.calls k _ _ l0_1 t382 t383 _ ?side1 ?side2 A7.out).mono ?_);(case side1=>repeat (first | exact (Kd.C_below HR0_1.out (q2_ HB GE381)) | (with_reducible refine Z ?_ _) | (with_reducible refine J ?_ _) | (with_reducible refine Y ?_)));(case side2=>exact HC0_1.out);rintro e w' ⟨rfl,⟨nd,rfl⟩⟩;refine ⟨_,rfl,?_⟩) | ((with_reducible refine E (f:=30) rfl ?_);refine goesM_ (some 20) Try.func30 #[.slice A0_2 l0_2.length c0_2,.int .i64 t383] ?_;(with_reducible refine (laws_heldIntS.calls k _ _ l0_2 t383 t384 _ ?side1 ?side2 A11.out).mono ?_);(case side1=>repeat (first | exact (Kd.C_below HR0_2.out (q2_ HB GE381)) | (with_reducible refine Z ?_ _) | (with_reducible refine J ?_ _) | (with_reducible refine Y ?_)));(case side2=>exact HC0_2.out);rintro e w' ⟨rfl,⟨nd,rfl⟩⟩;refine ⟨_,rfl,?_⟩))
    go_ret
    exact ⟨by first | rfl | (simp [errW_none,errW_some] <;> rfl) | (simp [*,errW_none,errW_some] <;> rfl),by repeat (first | (with_reducible first | exact HB.out | apply below_alloc | apply pw_below_drewN | apply below_drew1 | refine below_set ?_ GE381.out) | exact HB.out)⟩
   ·rw [if_neg c12] at H;have c12b0 : decide (t384 < 0) = false:=decide_eq_false c12;clear c12;replace H:=Option.bind_eq_some_iff.mp H;obtain ⟨t385,A150,H⟩:=H;replace H : (if t385 < 0 then (some (-1)) else ((laws_heldSayS.f k l0_4 t385).bind fun t386=>(if t386 < 0 then (some (-1)) else (some t386)))) = some r:=H;have A15:=O A150;clear A150
    by_cases c16 : t385 < 0
    ·rw [if_pos c16] at H;have c16b0 : decide (t385 < 0) = true:=decide_eq_true c16;clear c16;obtain rfl:=Option.some.inj H;go_enter Try.func12,Try.ntmps12
     go_wp2_with (first | ((with_reducible refine gate_dst (N:=2) rfl ?_);refine box_event ?hg (N:=2) ?hd (cs:=#[.slice A0_0 l0_0.length c0_0,.slice A0_1 l0_1.length c0_1,.slice A0_2 l0_2.length c0_2,.slice A0_3 l0_3.length c0_3,.slice A0_4 l0_4.length c0_4]) (t:=29) ?hr ?_;(case hd=>rfl);(case hg=>rfl);(case hr=>first | (go_simp;done) | (go_simp;rfl));intro gb381 hg w17 hbox hb;have n0_:=O (below_step (q0_ HB) hb);have n1_:=O (hbox);have n2_:=O ((by rw [hg];exact (below_size (q0_ HB)) : w.heap.size ≤ gb381));have n3_:=O ((by rw [hg];exact (below_size (q0_ HB)) : w.heap.size ≤ gb381));clear HB;have HB:=n0_;have BK381:=n1_;have GW381:=n2_;have GE381:=n3_;clear n0_ n1_ n2_ n3_ hb hbox hg;obtain ⟨hcz18_0,hcz18_1,hcz18_2,hcz18_3,hcz18_4,hfz18_0,hfz18_1,hfz18_2,hfz18_3,hfz18_4⟩:=bz5_ BK381) | ((with_reducible refine E (f:=29) rfl ?_);refine goesM_ (some 8) Try.func29 #[.slice A0_0 l0_0.length c0_0,.int .i64 a1] ?_;(with_reducible refine (laws_heldProcS.calls k _ _ l0_0 a1 t382 _ ?side1 ?side2 A3.out).mono ?_);(case side1=>repeat (first | exact (Kd.C_below HR0_0.out HB.out) | (with_reducible refine Z ?_ _) | (with_reducible refine J ?_ _) | (with_reducible refine Y ?_)));(case side2=>exact HC0_0.out);rintro e w' ⟨rfl,⟨nd,rfl⟩⟩;refine ⟨_,rfl,?_⟩) | ((with_reducible refine E (f:=30) rfl ?_);refine goesM_ (some 14) Try.func30 #[.slice A0_1 l0_1.length c0_1,.int .i64 t382] ?_;(with_reducible refine (laws_heldIntS.calls k _ _ l0_1 t382 t383 _ ?side1 ?side2 A7.out).mono ?_);(case side1=>repeat (first | exact (Kd.C_below HR0_1.out (q2_ HB GE381)) | (with_reducible refine Z ?_ _) | (with_reducible refine J ?_ _) | (with_reducible refine Y ?_)));(case side2=>exact HC0_1.out);rintro e w' ⟨rfl,⟨nd,rfl⟩⟩;refine ⟨_,rfl,?_⟩) | ((with_reducible refine E (f:=30) rfl ?_);refine goesM_ (some 20) Try.func30 #[.slice A0_2 l0_2.length c0_2,.int .i64 t383] ?_;(with_reducible refine (laws_heldIntS.calls k _ _ l0_2 t383 t384 _ ?side1 ?side2 A11.out).mono ?_);(case side1=>repeat (first | exact (Kd.C_below HR0_2.out (q2_ HB GE381)) | (with_reducible refine Z ?_ _) | (with_reducible refine J ?_ _) | (with_reducible refine Y ?_)));(case side2=>exact HC0_2.out);rintro e w' ⟨rfl,⟨nd,rfl⟩⟩;refine ⟨_,rfl,?_⟩) | ((with_reducible refine E (f:=31) rfl ?_);refine goesM_ (some 26) Try.func31 #[.slice A0_3 l0_3.length c0_3,.int .i64 t384] ?_;(with_reducible refine (laws_heldIntSS.calls k _ _ l0_3 t384 t385 _ ?side1 ?side2 A15.out).mono ?_);(case side1=>repeat (first | exact (Kd.C_below HR0_3.out (q2_ HB GE381)) | (with_reducible refine Z ?_ _) | (with_reducible refine J ?_ _) | (with_reducible refine Y ?_)));(case side2=>exact HC0_3.out);rintro e w' ⟨rfl,⟨nd,rfl⟩⟩;refine ⟨_,rfl,?_⟩))
     go_ret
     exact ⟨by first | rfl | (simp [errW_none,errW_some] <;> rfl) | (simp [*,errW_none,errW_some] <;> rfl),by repeat (first | (with_reducible first | exact HB.out | apply below_alloc | apply pw_below_drewN | apply below_drew1 | refine below_set ?_ GE381.out) | exact HB.out)⟩
    ·rw [if_neg c16] at H;have c16b0 : decide (t385 < 0) = false:=decide_eq_false c16;clear c16;replace H:=Option.bind_eq_some_iff.mp H;obtain ⟨t386,A190,H⟩:=H;replace H : (if t386 < 0 then (some (-1)) else (some t386)) = some r:=H;have A19:=O A190;clear A190
     by_cases c20 : t386 < 0
     ·rw [if_pos c20] at H;have c20b0 : decide (t386 < 0) = true:=decide_eq_true c20;clear c20;obtain rfl:=Option.some.inj H;go_enter Try.func12,Try.ntmps12
      go_wp2_with (first | ((with_reducible refine gate_dst (N:=2) rfl ?_);refine box_event ?hg (N:=2) ?hd (cs:=#[.slice A0_0 l0_0.length c0_0,.slice A0_1 l0_1.length c0_1,.slice A0_2 l0_2.length c0_2,.slice A0_3 l0_3.length c0_3,.slice A0_4 l0_4.length c0_4]) (t:=29) ?hr ?_;(case hd=>rfl);(case hg=>rfl);(case hr=>first | (go_simp;done) | (go_simp;rfl));intro gb381 hg w21 hbox hb;have n0_:=O (below_step (q0_ HB) hb);have n1_:=O (hbox);have n2_:=O ((by rw [hg];exact (below_size (q0_ HB)) : w.heap.size ≤ gb381));have n3_:=O ((by rw [hg];exact (below_size (q0_ HB)) : w.heap.size ≤ gb381));clear HB;have HB:=n0_;have BK381:=n1_;have GW381:=n2_;have GE381:=n3_;clear n0_ n1_ n2_ n3_ hb hbox hg;obtain ⟨hcz22_0,hcz22_1,hcz22_2,hcz22_3,hcz22_4,hfz22_0,hfz22_1,hfz22_2,hfz22_3,hfz22_4⟩:=bz5_ BK381) | ((with_reducible refine E (f:=29) rfl ?_);refine goesM_ (some 8) Try.func29 #[.slice A0_0 l0_0.length c0_0,.int .i64 a1] ?_;(with_reducible refine (laws_heldProcS.calls k _ _ l0_0 a1 t382 _ ?side1 ?side2 A3.out).mono ?_);(case side1=>repeat (first | exact (Kd.C_below HR0_0.out HB.out) | (with_reducible refine Z ?_ _) | (with_reducible refine J ?_ _) | (with_reducible refine Y ?_)));(case side2=>exact HC0_0.out);rintro e w' ⟨rfl,⟨nd,rfl⟩⟩;refine ⟨_,rfl,?_⟩) | ((with_reducible refine E (f:=30) rfl ?_);refine goesM_ (some 14) Try.func30 #[.slice A0_1 l0_1.length c0_1,.int .i64 t382] ?_;(with_reducible refine (laws_heldIntS.calls k _ _ l0_1 t382 t383 _ ?side1 ?side2 A7.out).mono ?_);(case side1=>repeat (first | exact (Kd.C_below HR0_1.out (q2_ HB GE381)) | (with_reducible refine Z ?_ _) | (with_reducible refine J ?_ _) | (with_reducible refine Y ?_)));(case side2=>exact HC0_1.out);rintro e w' ⟨rfl,⟨nd,rfl⟩⟩;refine ⟨_,rfl,?_⟩) | ((with_reducible refine E (f:=30) rfl ?_);refine goesM_ (some 20) Try.func30 #[.slice A0_2 l0_2.length c0_2,.int .i64 t383] ?_;(with_reducible refine (laws_heldIntS.calls k _ _ l0_2 t383 t384 _ ?side1 ?side2 A11.out).mono ?_);(case side1=>repeat (first | exact (Kd.C_below HR0_2.out (q2_ HB GE381)) | (with_reducible refine Z ?_ _) | (with_reducible refine J ?_ _) | (with_reducible refine Y ?_)));(case side2=>exact HC0_2.out);rintro e w' ⟨rfl,⟨nd,rfl⟩⟩;refine ⟨_,rfl,?_⟩) | ((with_reducible refine E (f:=31) rfl ?_);refine goesM_ (some 26) Try.func31 #[.slice A0_3 l0_3.length c0_3,.int .i64 t384] ?_;(with_reducible refine (laws_heldIntSS.calls k _ _ l0_3 t384 t385 _ ?side1 ?side2 A15.out).mono ?_);(case side1=>repeat (first | exact (Kd.C_below HR0_3.out (q2_ HB GE381)) | (with_reducible refine Z ?_ _) | (with_reducible refine J ?_ _) | (with_reducible refine Y ?_)));(case side2=>exact HC0_3.out);rintro e w' ⟨rfl,⟨nd,rfl⟩⟩;refine ⟨_,rfl,?_⟩) | ((with_reducible refine E (f:=32) rfl ?_);refine goesM_ (some 32) Try.func32 #[.slice A0_4 l0_4.length c0_4,.int .i64 t385] ?_;(with_reducible refine (laws_heldSayS.calls k _ _ l0_4 t385 t386 _ ?side1 ?side2 A19.out).mono ?_);(case side1=>repeat (first | exact (Kd.C_below HR0_4.out (q2_ HB GE381)) | (with_reducible refine Z ?_ _) | (with_reducible refine J ?_ _) | (with_reducible refine Y ?_)));(case side2=>exact HC0_4.out);rintro e w' ⟨rfl,⟨nd,rfl⟩⟩;refine ⟨_,rfl,?_⟩))
      go_ret
      exact ⟨by first | rfl | (simp [errW_none,errW_some] <;> rfl) | (simp [*,errW_none,errW_some] <;> rfl),by repeat (first | (with_reducible first | exact HB.out | apply below_alloc | apply pw_below_drewN | apply below_drew1 | refine below_set ?_ GE381.out) | exact HB.out)⟩
     ·rw [if_neg c20] at H;have c20b0 : decide (t386 < 0) = false:=decide_eq_false c20;clear c20;obtain rfl:=Option.some.inj H;go_enter Try.func12,Try.ntmps12
      go_wp2_with (first | ((with_reducible refine gate_dst (N:=2) rfl ?_);refine box_event ?hg (N:=2) ?hd (cs:=#[.slice A0_0 l0_0.length c0_0,.slice A0_1 l0_1.length c0_1,.slice A0_2 l0_2.length c0_2,.slice A0_3 l0_3.length c0_3,.slice A0_4 l0_4.length c0_4]) (t:=29) ?hr ?_;(case hd=>rfl);(case hg=>rfl);(case hr=>first | (go_simp;done) | (go_simp;rfl));intro gb381 hg w23 hbox hb;have n0_:=O (below_step (q0_ HB) hb);have n1_:=O (hbox);have n2_:=O ((by rw [hg];exact (below_size (q0_ HB)) : w.heap.size ≤ gb381));have n3_:=O ((by rw [hg];exact (below_size (q0_ HB)) : w.heap.size ≤ gb381));clear HB;have HB:=n0_;have BK381:=n1_;have GW381:=n2_;have GE381:=n3_;clear n0_ n1_ n2_ n3_ hb hbox hg;obtain ⟨hcz24_0,hcz24_1,hcz24_2,hcz24_3,hcz24_4,hfz24_0,hfz24_1,hfz24_2,hfz24_3,hfz24_4⟩:=bz5_ BK381) | ((with_reducible refine E (f:=29) rfl ?_);refine goesM_ (some 8) Try.func29 #[.slice A0_0 l0_0.length c0_0,.int .i64 a1] ?_;(with_reducible refine (laws_heldProcS.calls k _ _ l0_0 a1 t382 _ ?side1 ?side2 A3.out).mono ?_);(case side1=>repeat (first | exact (Kd.C_below HR0_0.out HB.out) | (with_reducible refine Z ?_ _) | (with_reducible refine J ?_ _) | (with_reducible refine Y ?_)));(case side2=>exact HC0_0.out);rintro e w' ⟨rfl,⟨nd,rfl⟩⟩;refine ⟨_,rfl,?_⟩) | ((with_reducible refine E (f:=30) rfl ?_);refine goesM_ (some 14) Try.func30 #[.slice A0_1 l0_1.length c0_1,.int .i64 t382] ?_;(with_reducible refine (laws_heldIntS.calls k _ _ l0_1 t382 t383 _ ?side1 ?side2 A7.out).mono ?_);(case side1=>repeat (first | exact (Kd.C_below HR0_1.out (q2_ HB GE381)) | (with_reducible refine Z ?_ _) | (with_reducible refine J ?_ _) | (with_reducible refine Y ?_)));(case side2=>exact HC0_1.out);rintro e w' ⟨rfl,⟨nd,rfl⟩⟩;refine ⟨_,rfl,?_⟩) | ((with_reducible refine E (f:=30) rfl ?_);refine goesM_ (some 20) Try.func30 #[.slice A0_2 l0_2.length c0_2,.int .i64 t383] ?_;(with_reducible refine (laws_heldIntS.calls k _ _ l0_2 t383 t384 _ ?side1 ?side2 A11.out).mono ?_);(case side1=>repeat (first | exact (Kd.C_below HR0_2.out (q2_ HB GE381)) | (with_reducible refine Z ?_ _) | (with_reducible refine J ?_ _) | (with_reducible refine Y ?_)));(case side2=>exact HC0_2.out);rintro e w' ⟨rfl,⟨nd,rfl⟩⟩;refine ⟨_,rfl,?_⟩) | ((with_reducible refine E (f:=31) rfl ?_);refine goesM_ (some 26) Try.func31 #[.slice A0_3 l0_3.length c0_3,.int .i64 t384] ?_;(with_reducible refine (laws_heldIntSS.calls k _ _ l0_3 t384 t385 _ ?side1 ?side2 A15.out).mono ?_);(case side1=>repeat (first | exact (Kd.C_below HR0_3.out (q2_ HB GE381)) | (with_reducible refine Z ?_ _) | (with_reducible refine J ?_ _) | (with_reducible refine Y ?_)));(case side2=>exact HC0_3.out);rintro e w' ⟨rfl,⟨nd,rfl⟩⟩;refine ⟨_,rfl,?_⟩) | ((with_reducible refine E (f:=32) rfl ?_);refine goesM_ (some 32) Try.func32 #[.slice A0_4 l0_4.length c0_4,.int .i64 t385] ?_;(with_reducible refine (laws_heldSayS.calls k _ _ l0_4 t385 t386 _ ?side1 ?side2 A19.out).mono ?_);(case side1=>repeat (first | exact (Kd.C_below HR0_4.out (q2_ HB GE381)) | (with_reducible refine Z ?_ _) | (with_reducible refine J ?_ _) | (with_reducible refine Y ?_)));(case side2=>exact HC0_4.out);rintro e w' ⟨rfl,⟨nd,rfl⟩⟩;refine ⟨_,rfl,?_⟩))
      go_ret
      exact ⟨by first | rfl | (simp [errW_none,errW_some] <;> rfl) | (simp [*,errW_none,errW_some] <;> rfl),by repeat (first | (with_reducible first | exact HB.out | apply below_alloc | apply pw_below_drewN | apply below_drew1 | refine below_set ?_ GE381.out) | exact HB.out)⟩
end Go.Proofs.Ytdjkmnkgaacmfaa.P
