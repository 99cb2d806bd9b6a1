/- Parts of the proof of FnCodeBoth: plain Lean functions of Go functions, and that the calls come to what they say; no condition beyond those that each theorem names. -/
import Derived.Test.YtphbdoljkpdflaaZFnCodeBoth4
import Derived.Test.YtphbdoljkpdflaaZFnCodeBoth11
import Derived.Test.YtphbdoljkpdflaaZFnCodeBoth10
namespace Go.Proofs.Ytphbdoljkpdflaa.P
open Go.RowKit Go.Proofs.YtphbdoljkpdflaaW.PrintWords Go.Proofs.YtphbdoljkpdflaaW.PrintLast Go.Proofs.YtphbdoljkpdflaaW.PrintMore
open Bool renaming true → O, false → Z
open Go.Proofs.YtphbdoljkpdflaaW.PrintWords renaming Aside0.mk → J
open List renaming setIfInBounds_toArray → Y, set_cons_zero → E, set_cons_succ → U
open Go renaming World.block_lt_of_cell? → G
attribute [local go_sem] max2_int min2_int max_two min_two max_three min_three max_four min_four
set_option linter.unusedVariables false
set_option linter.unusedSimpArgs false
mutual
def spec_l2Many.l0 : Nat → List (S46) → Int → Int → Int → Option (Int)
 | 0,_,_,_,_=>none
 | k + 1,x0,x1,x5,x6=>if x6 < (x0.length : Int) then (spec_l2Many.j1 k x0 x1 x5 x6 (decide (x1 > 0))) else (spec_l2Many.j1 k x0 x1 x5 x6 false)
def spec_l2Many.j1 : Nat → List (S46) → Int → Int → Int → Bool → Option (Int)
 | 0,_,_,_,_,_=>none
 | k + 1,x0,x1,x5,x6,x14=>if x14 = true then (if 0 ≤ x6 then (if x6 < (x0.length : Int) then ((spec_l2Many.f k ((rd_T46 x0 x6).f4) (wrap64 (x1 - 1))).bind fun t245=>((spec_l2Many.f k ((rd_T46 x0 x6).f5) (wrap64 (x1 - 1))).bind fun t247=>(spec_l2Many.l0 k x0 x1 (wrap64 ((wrap64 ((wrap64 (x5 + 1)) + t245)) + t247)) (wrap64 (x6 + 1))))) else (none)) else (none)) else (some x5)
def spec_l2Many.f : Nat → List (S46) → Int → Option (Int)
 | 0,_,_=>none
 | k + 1,l0,a1=>spec_l2Many.l0 k l0 a1 0 0
end
def spec_l2Many.T5 : Bool × List (List Nat × List Nat):=(true,[([],[]),([0],[0]),([],[]),([],[]),([2,3],[2,3]),([4],[4]),([5],[5]),([],[]),([7],[7]),([6,8],[6,8]),([1,9],[1,9]),([],[]),([],[]),([11,12],[11,12]),([13],[13]),([14],[14]),([],[]),([16],[16]),([15,17,9],[15,17]),([10,18],[10,18]),([19,18,0,1,2,3,4,5,6,7,8,9,10,11,12,13,14,15,16,17,18,19],[0,19])])
def spec_l2Many.B5 : List Nat:=[0,1,0,0,12,28,60,0,128,508,1023,0,0,6144,14336,30720,0,65536,261116,524287,1048575]
theorem spec_l2Many.tab5 : rtab .any (opsOf Try.f47 5) = spec_l2Many.T5:=by kernel_rfl
theorem spec_l2Many.bits5 : waitsOk spec_l2Many.T5.2 spec_l2Many.B5 = true:=by kernel_rfl
set_option maxHeartbeats 8000000 in
set_option maxRecDepth 100000 in
theorem spec_l2Many.calls (k : Nat) : ∀ (A0 : Option Addr) (c0 : Nat) (l0 : List (S46)) (a1 : Int) (r : Int) (w : World) (hr0 : Kd.C k46 w A0 l0.length l0) (hc0 : l0.length ≤ c0) (h : spec_l2Many.f k l0 a1 = some r),
  Calls Try.prog 47 #[.slice A0 l0.length c0,.int .i64 a1] w fun e w'=>e = .returned (.int .i64 r) ∧ Below w.heap.size w w':=by
 induction k using Nat.strongRecOn with
 | _ k ih =>
 intro A0 c0 l0 a1 r w hr0 hc0 h
 cases k with
 | zero=>exact absurd h (by simp [spec_l2Many.f])
 | succ k =>
 simp only [spec_l2Many.f] at h;have HR0:=J hr0;have HC0:=J hc0;clear hr0 hc0;have HB:=J (Below.refl w.heap.size w);have H : (spec_l2Many.l0 k l0 a1 0 0) = some r:=h;clear h;have H':=J H;clear H;go_enter Try.func47,Try.ntmps47
 go_wp2
 go_loopg [5,6] k (fun kq v5 v6 w'=>∃ (x5_1 : Int) (x6_1 : Int),v5 = .int .i64 x5_1 ∧ v6 = .int .i64 x6_1 ∧ Aside0 (spec_l2Many.l0 kq l0 a1 x5_1 x6_1 = some r) ∧ Aside0 (kq ≤ k) ∧ Aside0 (Below w.heap.size w w'))
 case atStart=>exact ⟨(0),(0),(by first | rfl | (simp;done) | (simp [*];done)),(by first | rfl | (simp;done) | (simp [*];done)),H',⟨Nat.le_refl _⟩,⟨by repeat (first | (with_reducible first | exact HB.out | apply below_alloc | apply pw_below_drewN | apply below_drew1) | exact HB.out)⟩⟩
 case round =>
  clear H';(try clear p2);obtain ⟨x5_1,x6_1,rfl,rfl,HA,HK1,HB⟩:=hrel
  cases gk with
  | zero=>exact absurd HA.out (by simp [spec_l2Many.l0])
  | succ k1 =>
   have H:=HA.out;clear HA;simp only [spec_l2Many.l0] at H;have HC3:=J H;clear H
   go_upto_region 3 with (fail)
   go_cut [14] (fun v14 wc=>∃ (kq : Nat) (x14_2 : Bool),v14 = .bool x14_2 ∧ Aside0 (spec_l2Many.j1 kq l0 a1 x5_1 x6_1 x14_2 = some r) ∧ Aside0 (kq ≤ k1) ∧ Aside0 (Below w.heap.size w wc))
   case first =>
    have H:=HC3.out;clear HC3
    by_cases c4 : x6_1 < (l0.length : Int)
    ·rw [if_pos c4] at H;have c4b0 : decide (x6_1 < (l0.length : Int)) = true:=decide_eq_true c4;clear c4
     (first | rw [c4b0] | (simp only [i64_w,i32_w];rw [c4b0]) | skip)
     have H':=J H;clear H
     go_wp2
     go_meet
     case rel=>exact ⟨_,(decide (a1 > 0)),(by first | rfl | (simp;done) | (simp [*];done)),H',⟨by have:=HK1.out;first | omega | exact Nat.le_refl _⟩,⟨by repeat (first | (with_reducible first | exact HB.out | apply below_alloc | apply pw_below_drewN | apply below_drew1) | exact HB.out)⟩⟩
    ·rw [if_neg c4] at H;have c4b0 : decide (x6_1 < (l0.length : Int)) = false:=decide_eq_false c4;clear c4
     (first | rw [c4b0] | (simp only [i64_w,i32_w];rw [c4b0]) | skip)
     have H':=J H;clear H
     go_wp2
     go_meet
     case rel=>exact ⟨_,(false),(by first | rfl | (simp;done) | (simp [*];done)),H',⟨by have:=HK1.out;first | omega | exact Nat.le_refl _⟩,⟨by repeat (first | (with_reducible first | exact HB.out | apply below_alloc | apply pw_below_drewN | apply below_drew1) | exact HB.out)⟩⟩
   case rest =>
    clear HC3;(try clear p2);(try clear c4);(try clear c4b0);(try clear p2);obtain ⟨kq,x14_2,rfl,HA,HJ2,HB⟩:=hcut
    cases kq with
    | zero=>exact absurd HA.out (by simp [spec_l2Many.j1])
    | succ kj2 =>
     have H:=HA.out;clear HA;simp only [spec_l2Many.j1] at H
     by_cases c5 : x14_2 = true
     ·subst c5
      have H1 : (if 0 ≤ x6_1 then (if x6_1 < (l0.length : Int) then ((spec_l2Many.f kj2 ((rd_T46 l0 x6_1).f4) (wrap64 (a1 - 1))).bind fun t245=>((spec_l2Many.f kj2 ((rd_T46 l0 x6_1).f5) (wrap64 (a1 - 1))).bind fun t247=>(spec_l2Many.l0 kj2 l0 a1 (wrap64 ((wrap64 ((wrap64 (x5_1 + 1)) + t245)) + t247)) (wrap64 (x6_1 + 1))))) else (none)) else (none)) = some r:=by rw [if_pos rfl] at H;exact H
      clear H;have H:=H1;clear H1
      by_cases c6 : 0 ≤ x6_1
      ·rw [if_pos c6] at H;have c6b0 : decide (0 ≤ x6_1) = true:=decide_eq_true c6;clear c6
       by_cases c7 : x6_1 < (l0.length : Int)
       ·rw [if_pos c7] at H;have c7b0 : decide (x6_1 < (l0.length : Int)) = true:=decide_eq_true c7;clear c7;replace H:=Option.bind_eq_some_iff.mp H;obtain ⟨t245,A80,H⟩:=H;replace H : ((spec_l2Many.f kj2 ((rd_T46 l0 x6_1).f5) (wrap64 (a1 - 1))).bind fun t247=>(spec_l2Many.l0 kj2 l0 a1 (wrap64 ((wrap64 ((wrap64 (x5_1 + 1)) + t245)) + t247)) (wrap64 (x6_1 + 1)))) = some r:=H;have A8:=J A80;clear A80;replace H:=Option.bind_eq_some_iff.mp H;obtain ⟨t247,A90,H⟩:=H;replace H : (spec_l2Many.l0 kj2 l0 a1 (wrap64 ((wrap64 ((wrap64 (x5_1 + 1)) + t245)) + t247)) (wrap64 (x6_1 + 1))) = some r:=H;have A9:=J A90;clear A90;have H':=J H;clear H
        try go_wp2
        have n0_:=J (below_drew1 HB.out);clear HB;have HB:=n0_;clear n0_
        have p244 : 0 ≤ (x6_1 : Int):=of_decide_eq_true (by first | (with_reducible assumption) | assumption)
        have q244 : x6_1 < (l0.length : Int):=of_decide_eq_true (by first | (with_reducible assumption) | assumption)
        obtain ⟨ad244,A244_4,c244_4,A244_5,c244_5,e244,hx244_0,hx244_1,hx244_2,hx244_3,hx244_4,hx244_5,hl244_4,hi244_4,hl244_5,hi244_5⟩:=at_T46 HR0.out x6_1 p244 q244;have hw244_5:=hx244_5;have hw244_4:=hx244_4;have hw244_3:=hx244_3;have hw244_2:=hx244_2;have hw244_1:=hx244_1;have hw244_0:=hx244_0
        cases e244
        replace hx244_0:=(HB.out.cell (G w _ hx244_0)).trans hx244_0;replace hx244_1:=(HB.out.cell (G w _ hx244_1)).trans hx244_1;replace hx244_2:=(HB.out.cell (G w _ hx244_2)).trans hx244_2;replace hx244_3:=(HB.out.cell (G w _ hx244_3)).trans hx244_3;replace hx244_4:=(HB.out.cell (G w _ hx244_4)).trans hx244_4;replace hx244_5:=(HB.out.cell (G w _ hx244_5)).trans hx244_5;have HR244_4:=J hi244_4;have HC244_4:=J hl244_4;clear hi244_4 hl244_4;have HR244_5:=J hi244_5;have HC244_5:=J hl244_5;clear hi244_5 hl244_5;replace p244:=eq_true p244;replace q244:=eq_true q244
        have p246 : 0 ≤ (x6_1 : Int):=of_decide_eq_true (by first | (with_reducible assumption) | assumption)
        have q246 : x6_1 < (l0.length : Int):=of_decide_eq_true (by first | (with_reducible assumption) | assumption)
        obtain ⟨ad246,A246_4,c246_4,A246_5,c246_5,e246,hx246_0,hx246_1,hx246_2,hx246_3,hx246_4,hx246_5,hl246_4,hi246_4,hl246_5,hi246_5⟩:=at_T46 HR0.out x6_1 p246 q246;have hw246_5:=hx246_5;have hw246_4:=hx246_4;have hw246_3:=hx246_3;have hw246_2:=hx246_2;have hw246_1:=hx246_1;have hw246_0:=hx246_0
        obtain rfl : ad244 = ad246:=(by injection e246)
        replace hx246_0:=(HB.out.cell (G w _ hx246_0)).trans hx246_0;replace hx246_1:=(HB.out.cell (G w _ hx246_1)).trans hx246_1;replace hx246_2:=(HB.out.cell (G w _ hx246_2)).trans hx246_2;replace hx246_3:=(HB.out.cell (G w _ hx246_3)).trans hx246_3;replace hx246_4:=(HB.out.cell (G w _ hx246_4)).trans hx246_4;replace hx246_5:=(HB.out.cell (G w _ hx246_5)).trans hx246_5;have HR246_4:=J hi246_4;have HC246_4:=J hl246_4;clear hi246_4 hl246_4;have HR246_5:=J hi246_5;have HC246_5:=J hl246_5;clear hi246_5 hl246_5;replace p246:=eq_true p246;replace q246:=eq_true q246;have ea_:=Option.some.inj (hx244_4.symm.trans hx246_4)
        injection ea_ with ea_ en_ ec_
        subst ea_;subst ec_;clear en_;have ea_:=Option.some.inj (hx244_5.symm.trans hx246_5)
        injection ea_ with ea_ en_ ec_
        subst ea_;subst ec_;clear en_
        refine start_ (n:=21) (S:=fun w'=>w'.cell? (ad244.add ((x6_1).toNat * 6)) = some (.int .i64 ((rd_T46 l0 x6_1).f0)) ∧ w'.cell? ⟨(ad244.add ((x6_1).toNat * 6)).block,(ad244.add ((x6_1).toNat * 6)).off + 1,none⟩ = some (.int .i64 ((rd_T46 l0 x6_1).f1)) ∧ w'.cell? ⟨(ad244.add ((x6_1).toNat * 6)).block,(ad244.add ((x6_1).toNat * 6)).off + 2,none⟩ = some (.int .i64 ((rd_T46 l0 x6_1).f2)) ∧ w'.cell? ⟨(ad244.add ((x6_1).toNat * 6)).block,(ad244.add ((x6_1).toNat * 6)).off + 3,none⟩ = some (.int .i64 ((rd_T46 l0 x6_1).f3)) ∧ w'.cell? ⟨(ad244.add ((x6_1).toNat * 6)).block,(ad244.add ((x6_1).toNat * 6)).off + 4,none⟩ = some (.slice A244_4 ((rd_T46 l0 x6_1).f4).length c244_4) ∧ w'.cell? ⟨(ad244.add ((x6_1).toNat * 6)).block,(ad244.add ((x6_1).toNat * 6)).off + 5,none⟩ = some (.slice A244_5 ((rd_T46 l0 x6_1).f5).length c244_5) ∧ w'.cell? (ad244.add ((x6_1).toNat * 6)) = some (.int .i64 ((rd_T46 l0 x6_1).f0)) ∧ w'.cell? ⟨(ad244.add ((x6_1).toNat * 6)).block,(ad244.add ((x6_1).toNat * 6)).off + 1,none⟩ = some (.int .i64 ((rd_T46 l0 x6_1).f1)) ∧ w'.cell? ⟨(ad244.add ((x6_1).toNat * 6)).block,(ad244.add ((x6_1).toNat * 6)).off + 2,none⟩ = some (.int .i64 ((rd_T46 l0 x6_1).f2)) ∧ w'.cell? ⟨(ad244.add ((x6_1).toNat * 6)).block,(ad244.add ((x6_1).toNat * 6)).off + 3,none⟩ = some (.int .i64 ((rd_T46 l0 x6_1).f3)) ∧ w'.cell? ⟨(ad244.add ((x6_1).toNat * 6)).block,(ad244.add ((x6_1).toNat * 6)).off + 4,none⟩ = some (.slice A244_4 ((rd_T46 l0 x6_1).f4).length c244_4) ∧ w'.cell? ⟨(ad244.add ((x6_1).toNat * 6)).block,(ad244.add ((x6_1).toNat * 6)).off + 5,none⟩ = some (.slice A244_5 ((rd_T46 l0 x6_1).f5).length c244_5)) (ds:=[]) #[Z,Z,Z,Z,Z,Z,Z,Z,Z,Z,Z,Z,Z,Z,Z,Z,Z,Z,Z,Z,Z] (by kernel_rfl) rfl rfl ⟨((HB.out.cell (G w _ hw244_0)).trans hw244_0),((HB.out.cell (G w _ hw244_1)).trans hw244_1),((HB.out.cell (G w _ hw244_2)).trans hw244_2),((HB.out.cell (G w _ hw244_3)).trans hw244_3),((HB.out.cell (G w _ hw244_4)).trans hw244_4),((HB.out.cell (G w _ hw244_5)).trans hw244_5),((HB.out.cell (G w _ hw246_0)).trans hw246_0),((HB.out.cell (G w _ hw246_1)).trans hw246_1),((HB.out.cell (G w _ hw246_2)).trans hw246_2),((HB.out.cell (G w _ hw246_3)).trans hw246_3),((HB.out.cell (G w _ hw246_4)).trans hw246_4),((HB.out.cell (G w _ hw246_5)).trans hw246_5)⟩ (fun hHeld=>?_);refine with_tabW spec_l2Many.tab5 spec_l2Many.bits5 (fun HT_ HW_=>?_)
        generalize wc.drew = w10 at HB HR244_4 HR244_5 HR246_4 HR246_5 hx244_0 hx244_1 hx244_2 hx244_3 hx244_4 hx244_5 hx246_0 hx246_1 hx246_2 hx246_3 hx246_4 hx246_5 hHeld ⊢
        refine pure_ (i:=0) (N:=some 17) (v:=?_) (a':=?_) #[O,Z,Z,Z,Z,Z,Z,Z,Z,Z,Z,Z,Z,Z,Z,Z,Z,Z,Z,Z,Z] rfl rfl (any_of HT_.out (by kernel_rfl)) (fun _ _ _ h=>h) (Or.inl ⟨by rfl,?_⟩) ?_ ?_;rotate_left;(intro w';go_simp;with_reducible rfl);rotate_left;((try simp only [Act.put,Y,E,U,i64_w,i32_w]);rfl)
        refine pure_ (i:=1) (N:=some 18) (v:=?_) (a':=?_) #[O,O,Z,Z,Z,Z,Z,Z,Z,Z,Z,Z,Z,Z,Z,Z,Z,Z,Z,Z,Z] rfl rfl (any_of HT_.out (by kernel_rfl)) (fun _ _ _ h=>h) (Or.inl ⟨by rfl,?_⟩) ?_ ?_;rotate_left;(intro w';go_simp;with_reducible rfl);rotate_left;((try simp only [Act.put,Y,E,U,i64_w,i32_w]);rfl)
        refine pure_ (i:=2) (N:=some 19) (v:=?_) (a':=?_) #[O,O,O,Z,Z,Z,Z,Z,Z,Z,Z,Z,Z,Z,Z,Z,Z,Z,Z,Z,Z] rfl rfl (any_of HT_.out (by kernel_rfl)) (fun _ _ _ h=>h) (Or.inl ⟨by rfl,?_⟩) ?_ ?_;rotate_left;(intro w';go_simp;with_reducible rfl);rotate_left;((try simp only [Act.put,Y,E,U,i64_w,i32_w]);rfl)
        refine pure_ (i:=3) (N:=some 20) (v:=?_) (a':=?_) #[O,O,O,O,Z,Z,Z,Z,Z,Z,Z,Z,Z,Z,Z,Z,Z,Z,Z,Z,Z] rfl rfl (any_of HT_.out (by kernel_rfl)) (fun _ _ _ h=>h) (Or.inl ⟨by rfl,?_⟩) ?_ ?_;rotate_left;(intro w';go_simp;with_reducible rfl);rotate_left;((try simp only [Act.put,Y,E,U,i64_w,i32_w]);rfl)
        refine pure_ (i:=4) (N:=some 21) (v:=?_) (a':=?_) #[O,O,O,O,O,Z,Z,Z,Z,Z,Z,Z,Z,Z,Z,Z,Z,Z,Z,Z,Z] rfl rfl (any_of HT_.out (by kernel_rfl)) (fun _ _ _ h=>h) (Or.inl ⟨by rfl,?_⟩) ?_ ?_;rotate_left;(intro w';go_simp;with_reducible rfl);rotate_left;((try simp only [Act.put,Y,E,U,i64_w,i32_w]);rfl)
        refine pure_ (i:=5) (N:=some 22) (v:=?_) (a':=?_) #[O,O,O,O,O,O,Z,Z,Z,Z,Z,Z,Z,Z,Z,Z,Z,Z,Z,Z,Z] rfl rfl (any_of HT_.out (by kernel_rfl)) (fun _ _ _ h=>h) (Or.inl ⟨by rfl,?_⟩) ?_ ?_;rotate_left;(intro w';go_simp;with_reducible rfl);rotate_left;((try simp only [Act.put,Y,E,U,i64_w,i32_w]);rfl)
        refine pure_ (i:=7) (N:=some 24) (v:=?_) (a':=?_) #[O,O,O,O,O,O,Z,O,Z,Z,Z,Z,Z,Z,Z,Z,Z,Z,Z,Z,Z] rfl rfl (any_of HT_.out (by kernel_rfl)) (fun _ _ _ h=>h) (Or.inl ⟨by rfl,?_⟩) ?_ ?_;rotate_left;(intro w';go_simp;with_reducible rfl);rotate_left;((try simp only [Act.put,Y,E,U,i64_w,i32_w]);rfl)
        refine pure_ (i:=8) (N:=some 25) (v:=?_) (a':=?_) #[O,O,O,O,O,O,Z,O,O,Z,Z,Z,Z,Z,Z,Z,Z,Z,Z,Z,Z] rfl rfl (any_of HT_.out (by kernel_rfl)) (fun _ _ _ h=>h) (Or.inl ⟨by rfl,?_⟩) ?_ ?_;rotate_left;(intro w';go_simp;with_reducible rfl);rotate_left;((try simp only [Act.put,Y,E,U,i64_w,i32_w]);rfl)
        refine pure_ (i:=11) (N:=some 28) (v:=?_) (a':=?_) #[O,O,O,O,O,O,Z,O,O,Z,Z,O,Z,Z,Z,Z,Z,Z,Z,Z,Z] rfl rfl (any_of HT_.out (by kernel_rfl)) (fun _ _ _ h=>h) (Or.inl ⟨by rfl,?_⟩) ?_ ?_;rotate_left;(intro w';go_simp;with_reducible rfl);rotate_left;((try simp only [Act.put,Y,E,U,i64_w,i32_w]);rfl)
        refine pure_ (i:=12) (N:=some 29) (v:=?_) (a':=?_) #[O,O,O,O,O,O,Z,O,O,Z,Z,O,O,Z,Z,Z,Z,Z,Z,Z,Z] rfl rfl (any_of HT_.out (by kernel_rfl)) (fun _ _ _ h=>h) (Or.inl ⟨by rfl,?_⟩) ?_ ?_;rotate_left;(intro w';go_simp;with_reducible rfl);rotate_left;((try simp only [Act.put,Y,E,U,i64_w,i32_w]);rfl)
        refine pure_ (i:=13) (N:=some 30) (v:=?_) (a':=?_) #[O,O,O,O,O,O,Z,O,O,Z,Z,O,O,O,Z,Z,Z,Z,Z,Z,Z] rfl rfl (any_of HT_.out (by kernel_rfl)) (fun _ _ _ h=>h) (Or.inl ⟨by rfl,?_⟩) ?_ ?_;rotate_left;(intro w';go_simp;with_reducible rfl);rotate_left;((try simp only [Act.put,Y,E,U,i64_w,i32_w]);rfl)
        refine pure_ (i:=14) (N:=some 31) (v:=?_) (a':=?_) #[O,O,O,O,O,O,Z,O,O,Z,Z,O,O,O,O,Z,Z,Z,Z,Z,Z] rfl rfl (any_of HT_.out (by kernel_rfl)) (fun _ _ _ h=>h) (Or.inl ⟨by rfl,?_⟩) ?_ ?_;rotate_left;(intro w';go_simp;with_reducible rfl);rotate_left;((try simp only [Act.put,Y,E,U,i64_w,i32_w]);rfl)
        refine pure_ (i:=16) (N:=some 33) (v:=?_) (a':=?_) #[O,O,O,O,O,O,Z,O,O,Z,Z,O,O,O,O,Z,O,Z,Z,Z,Z] rfl rfl (any_of HT_.out (by kernel_rfl)) (fun _ _ _ h=>h) (Or.inl ⟨by rfl,?_⟩) ?_ ?_;rotate_left;(intro w';go_simp;with_reducible rfl);rotate_left;((try simp only [Act.put,Y,E,U,i64_w,i32_w]);rfl)
        refine pure_ (i:=17) (N:=some 34) (v:=?_) (a':=?_) #[O,O,O,O,O,O,Z,O,O,Z,Z,O,O,O,O,Z,O,O,Z,Z,Z] rfl rfl (any_of HT_.out (by kernel_rfl)) (fun _ _ _ h=>h) (Or.inl ⟨by rfl,?_⟩) ?_ ?_;rotate_left;(intro w';go_simp;with_reducible rfl);rotate_left;((try simp only [Act.put,Y,E,U,i64_w,i32_w]);rfl)
        refine take_ (i:=6) (N:=some 23) (v:=?_) (a':=?_) #[O,O,O,O,O,O,O,O,O,Z,Z,O,O,O,O,Z,O,O,Z,Z,Z] rfl rfl (take_ofW HT_.out HW_.out (by kernel_rfl)) (fun _ _ _ h=>h) (Or.inl ⟨by rfl,?_⟩) hHeld ?_ ?_;rotate_left;(rintro w' ⟨s0,s1,s2,s3,s4,s5,s6,s7,s8,s9,s10,s11⟩;go_simp;with_reducible rfl);rotate_left;((try simp only [Act.put,Y,E,U,i64_w,i32_w]);rfl)
        refine take_ (i:=15) (N:=some 32) (v:=?_) (a':=?_) #[O,O,O,O,O,O,O,O,O,Z,Z,O,O,O,O,O,O,O,Z,Z,Z] rfl rfl (take_ofW HT_.out HW_.out (by kernel_rfl)) (fun _ _ _ h=>h) (Or.inl ⟨by rfl,?_⟩) hHeld ?_ ?_;rotate_left;(rintro w' ⟨s0,s1,s2,s3,s4,s5,s6,s7,s8,s9,s10,s11⟩;go_simp;with_reducible rfl);rotate_left;((try simp only [Act.put,Y,E,U,i64_w,i32_w]);rfl)
        refine one_ (i:=9) (N:=some 26) #[O,O,O,O,O,O,O,O,O,O,Z,O,O,O,O,O,O,O,Z,Z,Z] rfl rfl (one_of HT_.out (by kernel_rfl)) (by decide) (fun K hK=>?_)
        refine goes_ Try.func47 (by kernel_rfl) rfl #[.slice A244_4 ((rd_T46 l0 x6_1).f4).length c244_4,.int .i64 (wrap64 (a1 - 1))] (by rfl) rfl rfl (by (try simp only [List.map_toArray,List.map_cons,List.map_nil]);first | done | rfl | (simp only [List.length_drop,List.length_take];rfl)) ?_
        with_reducible refine (ih kj2 (by have:=HK1.out;have:=HJ2.out;omega) _ _ ((rd_T46 l0 x6_1).f4) (wrap64 (a1 - 1)) t245 _ ?side1 ?side2 A8.out).mono ?_
        (case side1=>repeat (first | exact (Kd.C_below HR244_4.out HB.out) | (with_reducible refine Kd.C_alloc ?_ _) | (with_reducible refine Kd.C_drewN ?_ _) | (with_reducible refine Kd.C_drew ?_)))
        (case side2=>exact HC244_4.out)
        rintro e w11 ⟨rfl,hb⟩
        refine ⟨_,rfl,?_⟩
        have n0_:=J (below_step (q0_ HB) hb)
        clear HB;have HB:=n0_;clear n0_
        refine hK.out _ _ ⟨((HB.out.cell (G w _ hw244_0)).trans hw244_0),((HB.out.cell (G w _ hw244_1)).trans hw244_1),((HB.out.cell (G w _ hw244_2)).trans hw244_2),((HB.out.cell (G w _ hw244_3)).trans hw244_3),((HB.out.cell (G w _ hw244_4)).trans hw244_4),((HB.out.cell (G w _ hw244_5)).trans hw244_5),((HB.out.cell (G w _ hw246_0)).trans hw246_0),((HB.out.cell (G w _ hw246_1)).trans hw246_1),((HB.out.cell (G w _ hw246_2)).trans hw246_2),((HB.out.cell (G w _ hw246_3)).trans hw246_3),((HB.out.cell (G w _ hw246_4)).trans hw246_4),((HB.out.cell (G w _ hw246_5)).trans hw246_5)⟩ (fun hHeld=>?_)
        clear hK K
        refine norm_ (a':=?_) ?_ ?_
        rotate_left
        ·show Act.put _ (some 26) _ = _
         simp only [Act.put,Y,E,U,i64_w,i32_w]
         rfl
        refine pure_ (i:=10) (N:=some 27) (v:=?_) (a':=?_) #[O,O,O,O,O,O,O,O,O,O,O,O,O,O,O,O,O,O,Z,Z,Z] rfl rfl (any_of HT_.out (by kernel_rfl)) (fun _ _ _ h=>h) (Or.inl ⟨by rfl,?_⟩) ?_ ?_;rotate_left;(intro w';go_simp;with_reducible rfl);rotate_left;((try simp only [Act.put,Y,E,U,i64_w,i32_w]);rfl)
        refine one_ (i:=18) (N:=some 35) #[O,O,O,O,O,O,O,O,O,O,O,O,O,O,O,O,O,O,O,Z,Z] rfl rfl (one_of HT_.out (by kernel_rfl)) (by decide) (fun K hK=>?_)
        refine goes_ Try.func47 (by kernel_rfl) rfl #[.slice A244_5 ((rd_T46 l0 x6_1).f5).length c244_5,.int .i64 (wrap64 (a1 - 1))] (by rfl) rfl rfl (by (try simp only [List.map_toArray,List.map_cons,List.map_nil]);first | done | rfl | (simp only [List.length_drop,List.length_take];rfl)) ?_
        with_reducible refine (ih kj2 (by have:=HK1.out;have:=HJ2.out;omega) _ _ ((rd_T46 l0 x6_1).f5) (wrap64 (a1 - 1)) t247 _ ?side1 ?side2 A9.out).mono ?_
        (case side1=>repeat (first | exact (Kd.C_below HR246_5.out HB.out) | (with_reducible refine Kd.C_alloc ?_ _) | (with_reducible refine Kd.C_drewN ?_ _) | (with_reducible refine Kd.C_drew ?_)))
        (case side2=>exact HC246_5.out)
        rintro e w12 ⟨rfl,hb⟩
        refine ⟨_,rfl,?_⟩
        have n0_:=J (below_step (q0_ HB) hb)
        clear HB;have HB:=n0_;clear n0_
        refine hK.out _ _ ⟨((HB.out.cell (G w _ hw244_0)).trans hw244_0),((HB.out.cell (G w _ hw244_1)).trans hw244_1),((HB.out.cell (G w _ hw244_2)).trans hw244_2),((HB.out.cell (G w _ hw244_3)).trans hw244_3),((HB.out.cell (G w _ hw244_4)).trans hw244_4),((HB.out.cell (G w _ hw244_5)).trans hw244_5),((HB.out.cell (G w _ hw246_0)).trans hw246_0),((HB.out.cell (G w _ hw246_1)).trans hw246_1),((HB.out.cell (G w _ hw246_2)).trans hw246_2),((HB.out.cell (G w _ hw246_3)).trans hw246_3),((HB.out.cell (G w _ hw246_4)).trans hw246_4),((HB.out.cell (G w _ hw246_5)).trans hw246_5)⟩ (fun hHeld=>?_)
        clear hK K
        refine norm_ (a':=?_) ?_ ?_
        rotate_left
        ·show Act.put _ (some 35) _ = _
         simp only [Act.put,Y,E,U,i64_w,i32_w]
         rfl
        refine pure_ (i:=19) (N:=some 36) (v:=?_) (a':=?_) #[O,O,O,O,O,O,O,O,O,O,O,O,O,O,O,O,O,O,O,O,Z] rfl rfl (any_of HT_.out (by kernel_rfl)) (fun _ _ _ h=>h) (Or.inl ⟨by rfl,?_⟩) ?_ ?_;rotate_left;(intro w';go_simp;with_reducible rfl);rotate_left;((try simp only [Act.put,Y,E,U,i64_w,i32_w]);rfl)
        refine pure_ (i:=20) (N:=some 5) (v:=?_) (a':=?_) #[O,O,O,O,O,O,O,O,O,O,O,O,O,O,O,O,O,O,O,O,O] rfl rfl (any_of HT_.out (by kernel_rfl)) (fun _ _ _ h=>h) (Or.inl ⟨by rfl,?_⟩) ?_ ?_;rotate_left;(intro w';go_simp;with_reducible rfl);rotate_left;((try simp only [Act.put,Y,E,U,i64_w,i32_w]);rfl)
        refine done_ (done_of HT_.out (by kernel_rfl)) ?_
        try go_wp2
        go_roundg kj2
        case measure=>have:=HK1.out;have:=HJ2.out;omega
        case rel=>exact ⟨(wrap64 ((wrap64 ((wrap64 (x5_1 + 1)) + t245)) + t247)),(wrap64 (x6_1 + 1)),(by first | rfl | (simp;done) | (simp [*];done)),(by first | rfl | (simp;done) | (simp [*];done)),H',⟨by have:=HK1.out;have:=HJ2.out;omega⟩,⟨by repeat (first | (with_reducible first | exact HB.out | apply below_alloc | apply pw_below_drewN | apply below_drew1) | exact HB.out)⟩⟩
       ·rw [if_neg c7] at H
        exact absurd H (by simp)
      ·rw [if_neg c6] at H
       exact absurd H (by simp)
     ·replace c5:=Bool.eq_false_iff.mpr c5;subst c5
      have H1 : (some x5_1) = some r:=by rw [if_neg (show ¬ (false = true) by decide)] at H;exact H
      clear H;have H:=H1;clear H1;obtain rfl:=Option.some.inj H
      go_wp2
      go_ret
      exact ⟨by first | rfl | (simp [errW_none,errW_some] <;> rfl) | (simp [*,errW_none,errW_some] <;> rfl),by repeat (first | (with_reducible first | exact HB.out | apply below_alloc | apply pw_below_drewN | apply below_drew1) | exact HB.out)⟩
def spec_StmtsOk.f (k : Nat) (l0 : List (S46)) : Option (Bool):=(spec_l2List.f k l0 3 (-1)).bind fun t248=>(if t248 = true then ((spec_l2Many.f k l0 3).bind fun t249=>(some (decide (t249 ≤ 14)))) else (some false))
set_option maxHeartbeats 8000000 in
set_option maxRecDepth 100000 in
theorem spec_StmtsOk.calls (k : Nat) (A0 : Option Addr) (c0 : Nat) (l0 : List (S46)) (r : Bool) (w : World) (hr0 : Kd.C k46 w A0 l0.length l0) (hc0 : l0.length ≤ c0) (h : spec_StmtsOk.f k l0 = some r) :
  Calls Try.prog 27 #[.slice A0 l0.length c0] w fun e w'=>e = .returned (.bool r) ∧ Below w.heap.size w w':=by
 have HR0:=J hr0;have HC0:=J hc0;clear hr0 hc0;have HB:=J (Below.refl w.heap.size w);have H : ((spec_l2List.f k l0 3 (-1)).bind fun t248=>(if t248 = true then ((spec_l2Many.f k l0 3).bind fun t249=>(some (decide (t249 ≤ 14)))) else (some false))) = some r:=h;clear h;replace H:=Option.bind_eq_some_iff.mp H;obtain ⟨t248,A20,H⟩:=H;replace H : (if t248 = true then ((spec_l2Many.f k l0 3).bind fun t249=>(some (decide (t249 ≤ 14)))) else (some false)) = some r:=H;have A2:=J A20;clear A20
 by_cases c3 : t248 = true
 ·subst c3
  have H1 : ((spec_l2Many.f k l0 3).bind fun t249=>(some (decide (t249 ≤ 14)))) = some r:=by rw [if_pos rfl] at H;exact H
  clear H;have H:=H1;clear H1;replace H:=Option.bind_eq_some_iff.mp H;obtain ⟨t249,A40,H⟩:=H;replace H : (some (decide (t249 ≤ 14))) = some r:=H;have A4:=J A40;clear A40;obtain rfl:=Option.some.inj H;go_enter Try.func27,Try.ntmps27
  go_wp2_with (first | ((with_reducible refine gate_callee (f:=46) rfl ?_);refine goesM_ (some 4) Try.func46 #[.slice A0 l0.length c0,.int .i64 3,.int .i64 (-1)] ?_;(with_reducible refine (spec_l2List.calls k _ _ l0 3 (-1) true _ ?side1 ?side2 A2.out).mono ?_);(case side1=>repeat (first | exact HR0.out | (with_reducible refine Kd.C_alloc ?_ _) | (with_reducible refine Kd.C_drewN ?_ _) | (with_reducible refine Kd.C_drew ?_)));(case side2=>exact HC0.out);rintro e w5 ⟨rfl,hb⟩;refine ⟨_,rfl,?_⟩;have n0_:=J (below_step (q0_ HB) hb);clear HB;have HB:=n0_;clear n0_;(try clear hb)) | (go_at_call 47;(with_reducible refine (spec_l2Many.calls k _ _ l0 3 t249 _ ?side1 ?side2 A4.out).mono ?_);(case side1=>repeat (first | exact (Kd.C_below HR0.out HB.out) | (with_reducible refine Kd.C_alloc ?_ _) | (with_reducible refine Kd.C_drewN ?_ _) | (with_reducible refine Kd.C_drew ?_)));(case side2=>exact HC0.out);rintro e w6 ⟨rfl,hb⟩;have n0_:=J (below_step (q0_ HB) hb);clear HB;have HB:=n0_;clear n0_;(try clear hb)))
  go_ret
  exact ⟨by first | rfl | (simp [errW_none,errW_some] <;> rfl) | (simp [*,errW_none,errW_some] <;> rfl),by repeat (first | (with_reducible first | exact HB.out | apply below_alloc | apply pw_below_drewN | apply below_drew1) | exact HB.out)⟩
 ·replace c3:=Bool.eq_false_iff.mpr c3;subst c3
  have H1 : (some false) = some r:=by rw [if_neg (show ¬ (false = true) by decide)] at H;exact H
  clear H;have H:=H1;clear H1;obtain rfl:=Option.some.inj H;go_enter Try.func27,Try.ntmps27
  go_wp2_with (first | ((with_reducible refine gate_callee (f:=46) rfl ?_);refine goesM_ (some 4) Try.func46 #[.slice A0 l0.length c0,.int .i64 3,.int .i64 (-1)] ?_;(with_reducible refine (spec_l2List.calls k _ _ l0 3 (-1) false _ ?side1 ?side2 A2.out).mono ?_);(case side1=>repeat (first | exact HR0.out | (with_reducible refine Kd.C_alloc ?_ _) | (with_reducible refine Kd.C_drewN ?_ _) | (with_reducible refine Kd.C_drew ?_)));(case side2=>exact HC0.out);rintro e w7 ⟨rfl,hb⟩;refine ⟨_,rfl,?_⟩;have n0_:=J (below_step (q0_ HB) hb);clear HB;have HB:=n0_;clear n0_;(try clear hb)))
  go_ret
  exact ⟨by first | rfl | (simp [errW_none,errW_some] <;> rfl) | (simp [*,errW_none,errW_some] <;> rfl),by repeat (first | (with_reducible first | exact HB.out | apply below_alloc | apply pw_below_drewN | apply below_drew1) | exact HB.out)⟩
end Go.Proofs.Ytphbdoljkpdflaa.P

namespace Go.Proofs.Ytphbdoljkpdflaa.P
open Go.RowKit Go.Proofs.YtphbdoljkpdflaaW.PrintWords Go.Proofs.YtphbdoljkpdflaaW.PrintLast Go.Proofs.YtphbdoljkpdflaaW.PrintMore
attribute [local go_sem] max2_int min2_int max_two min_two max_three min_three max_four min_four
set_option linter.unusedVariables false
set_option linter.unusedSimpArgs false
def spec_CodeOf.f (k : Nat) (l0 : List (S46)) : Option ((List (S42))):=(spec_StmtsOk.f k l0).bind fun t324=>(if t324 = true then ((spec_l4Of.f k l0 0).bind fun t325=>(if t325.length < 4398046511104 then (some (t325 ++ [(⟨13,0,0,0⟩ : S42)])) else (none))) else (some (([] : List (S42)))))
set_option maxHeartbeats 8000000 in
set_option maxRecDepth 100000 in
theorem spec_CodeOf.calls (k : Nat) (A0 : Option Addr) (c0 : Nat) (l0 : List (S46)) (r : List (S42)) (w : World) (hr0 : Kd.C k46 w A0 l0.length l0) (hc0 : l0.length ≤ c0) (h : spec_CodeOf.f k l0 = some r) :
  Calls Try.prog 18 #[.slice A0 l0.length c0] w fun e w'=>∃ v0_ : Value,e = .returned (v0_) ∧ Kd.R k42 42 w' w.heap.size (fun _=>True) v0_ r ∧ Below w.heap.size w w':=by
 have hu42:=Try.underlying42;have HR0:=Aside0.mk hr0;have HC0:=Aside0.mk hc0;clear hr0 hc0;have HB:=Aside0.mk (Below.refl w.heap.size w);have H : ((spec_StmtsOk.f k l0).bind fun t324=>(if t324 = true then ((spec_l4Of.f k l0 0).bind fun t325=>(if t325.length < 4398046511104 then (some (t325 ++ [(⟨13,0,0,0⟩ : S42)])) else (none))) else (some (([] : List (S42)))))) = some r:=h;clear h;replace H:=Option.bind_eq_some_iff.mp H;obtain ⟨t324,A20,H⟩:=H;replace H : (if t324 = true then ((spec_l4Of.f k l0 0).bind fun t325=>(if t325.length < 4398046511104 then (some (t325 ++ [(⟨13,0,0,0⟩ : S42)])) else (none))) else (some (([] : List (S42))))) = some r:=H;have A2:=Aside0.mk A20;clear A20
 by_cases c3 : t324 = true
 ·subst c3
  have H1 : ((spec_l4Of.f k l0 0).bind fun t325=>(if t325.length < 4398046511104 then (some (t325 ++ [(⟨13,0,0,0⟩ : S42)])) else (none))) = some r:=by rw [if_pos rfl] at H;exact H
  clear H;have H:=H1;clear H1;replace H:=Option.bind_eq_some_iff.mp H;obtain ⟨t325,A40,H⟩:=H;replace H : (if t325.length < 4398046511104 then (some (t325 ++ [(⟨13,0,0,0⟩ : S42)])) else (none)) = some r:=H;have A4:=Aside0.mk A40;clear A40
  by_cases c5 : t325.length < 4398046511104
  ·rw [if_pos c5] at H;have LMc5:=Aside0.mk c5;clear c5;obtain ⟨y328,hy328⟩ : ∃ y_ : List (S42),y_ = (t325 ++ [(⟨13,0,0,0⟩ : S42)]):=⟨_,rfl⟩
   replace H : (some y328) = some r:=by first | (rw [hy328];with_reducible exact H) | (have H2_:=(Option.bind_some _ _).symm.trans H;rw [hy328];with_reducible exact H2_) | (have H2_:=(Option.bind_some _ _).symm.trans H;with_reducible exact H2_) | with_reducible exact H | (rw [hy328];exact H) | exact H
   have Ny328:=Aside0.mk hy328;clear hy328;obtain rfl:=Option.some.inj H;go_enter Try.func18,Try.ntmps18
   go_wp2_with (first | ((with_reducible refine gate_callee (f:=27) rfl ?_);refine goesM_ (some 4) Try.func27 #[.slice A0 l0.length c0] ?_;(with_reducible refine (spec_StmtsOk.calls k _ _ l0 true _ ?side1 ?side2 A2.out).mono ?_);(case side1=>repeat (first | exact HR0.out | (with_reducible refine Kd.C_alloc ?_ _) | (with_reducible refine Kd.C_drewN ?_ _) | (with_reducible refine Kd.C_drew ?_)));(case side2=>exact HC0.out);rintro e w6 ⟨rfl,hb⟩;refine ⟨_,rfl,?_⟩;have n0_:=Aside0.mk (below_step (q0_ HB) hb);clear HB;have HB:=n0_;clear n0_;(try clear hb);(try clear hk)) | ((with_reducible refine gate_callee (f:=40) rfl ?_);refine goesM_ (some 8) Try.func40 #[.slice A0 l0.length c0,.int .i64 0] ?_;(with_reducible refine (spec_l4Of.calls k _ _ l0 0 t325 _ ?side1 ?side2 A4.out).mono ?_);(case side1=>repeat (first | exact (Kd.C_below HR0.out HB.out) | (with_reducible refine Kd.C_alloc ?_ _) | (with_reducible refine Kd.C_drewN ?_ _) | (with_reducible refine Kd.C_drew ?_)));(case side2=>exact HC0.out);rintro e w7 ⟨v326,rfl,ho0,hb⟩;refine ⟨_,rfl,?_⟩;have n0_:=Aside0.mk (Kd.R_lower ho0 (below_size (q0_ HB)));have n1_:=Aside0.mk (below_step (q0_ HB) hb);clear HB;have HO327:=n0_;have HB:=n1_;clear n0_ n1_;(try clear hb);(try clear hk);(try clear ho0)) | ((with_reducible refine gate_builtin (b:=.append) (xs:=#[.tmp 8,.tmp 10]) rfl ?_);at_builtin;refine Kd.R_append k42 (w0:=w) w.heap.size rfl (.tmp 8) (.tmp 10) 25 42 (.agg #[(.int .i64 0),(.int .i64 0),(.int .i64 0),(.int .i64 0)]) 32 rfl Try.underlying25 info42 rfl (by decide) (by omega) v326 t325 (⟨13,0,0,0⟩ : S42) [.int .i64 13,.int .i64 0,.int .i64 0,.int .i64 0] (fun _=>True) (fun _=>False) rfl rfl ?aP (fun _ hk=>hk.elim) ?aF ?aO ?aB ?aS ?aL ?_;(case aP=>exact k42_mkM _ _ _ (⟨13,0,0,0⟩ : S42));(case aB=>exact q0_ HB);(case aF=>exact (fun _ _=>trivial));(case aO=>exact q3_ HO327);(case aS=>exact (below_size (q0_ HB)));(case aL=>have:=LMc5.out;omega);intro v329 w8 ho hb hg hat;rw [← Ny328.out] at ho;have n0_:=Aside0.mk (hb);have n1_:=Aside0.mk (ho);clear HB HO327;have HB:=n0_;have HO330:=n1_;clear n0_ n1_ ho hb hg hat))
   go_ret
   exact ⟨_,by first | rfl | (simp [errW_none,errW_some] <;> rfl) | (simp [*,errW_none,errW_some] <;> rfl),by (with_reducible repeat (first | apply Kd.R_alloc | apply Kd.R_drewN | apply Kd.R_drew));exact HO330.out,by repeat (first | (with_reducible first | exact HB.out | apply below_alloc | apply pw_below_drewN | apply below_drew1) | exact HB.out)⟩
  ·rw [if_neg c5] at H
   exact absurd H (by simp)
 ·replace c3:=Bool.eq_false_iff.mpr c3;subst c3
  have H1 : (some (([] : List (S42)))) = some r:=by rw [if_neg (show ¬ (false = true) by decide)] at H;exact H
  clear H;have H:=H1;clear H1;obtain ⟨y331,hy331⟩ : ∃ y_ : List (S42),y_ = (([] : List (S42))):=⟨_,rfl⟩
  replace H : (some y331) = some r:=by first | (rw [hy331];with_reducible exact H) | (have H2_:=(Option.bind_some _ _).symm.trans H;rw [hy331];with_reducible exact H2_) | (have H2_:=(Option.bind_some _ _).symm.trans H;with_reducible exact H2_) | with_reducible exact H | (rw [hy331];exact H) | exact H
  have Ny331:=Aside0.mk hy331;clear hy331;obtain rfl:=Option.some.inj H;go_enter Try.func18,Try.ntmps18
  go_wp2_with (first | ((with_reducible refine gate_callee (f:=27) rfl ?_);refine goesM_ (some 4) Try.func27 #[.slice A0 l0.length c0] ?_;(with_reducible refine (spec_StmtsOk.calls k _ _ l0 false _ ?side1 ?side2 A2.out).mono ?_);(case side1=>repeat (first | exact HR0.out | (with_reducible refine Kd.C_alloc ?_ _) | (with_reducible refine Kd.C_drewN ?_ _) | (with_reducible refine Kd.C_drew ?_)));(case side2=>exact HC0.out);rintro e w9 ⟨rfl,hb⟩;refine ⟨_,rfl,?_⟩;have n0_:=Aside0.mk (below_step (q0_ HB) hb);clear HB;have HB:=n0_;clear n0_;(try clear hb);(try clear hk)) | ((with_reducible refine gate_dst (N:=6) rfl ?_);refine Kd.R_lit k42 _ 42 ?hg (N:=6) ?hd (xs:=([] : List (S42))) (inner:=[]) (ok:=fun _=>True) (okp:=fun _=>True) ?hr ?hp (fun _ hk=>hk) trivial (Below.refl _ _) (Nat.le_refl _) (by simp) ?_;(case hd=>rfl);(case hg=>rfl);(case hr=>first | (go_simp;done) | (go_simp;rfl));(case hp=>exact (Reps.none _ _));intro v332 w10 ho11 hb hg_ hnew_;clear hg_ hnew_;(first | rw [← Ny331.out] at ho11 | (simp only [Int.reduceToNat] at ho11;rw [← Ny331.out] at ho11));have n0_:=Aside0.mk (Kd.R_lower ho11 (below_size (q0_ HB)));have n1_:=Aside0.mk (below_step (q0_ HB) hb);clear HB;have HO333:=n0_;have HB:=n1_;clear n0_ n1_ hb ho11))
  go_ret
  exact ⟨_,by first | rfl | (simp [errW_none,errW_some] <;> rfl) | (simp [*,errW_none,errW_some] <;> rfl),by (with_reducible repeat (first | apply Kd.R_alloc | apply Kd.R_drewN | apply Kd.R_drew));exact HO333.out,by repeat (first | (with_reducible first | exact HB.out | apply below_alloc | apply pw_below_drewN | apply below_drew1) | exact HB.out)⟩
end Go.Proofs.Ytphbdoljkpdflaa.P

namespace Go.Proofs.Ytphbdoljkpdflaa.P
open Go.RowKit Go.Proofs.YtphbdoljkpdflaaW.PrintWords Go.Proofs.YtphbdoljkpdflaaW.PrintLast Go.Proofs.YtphbdoljkpdflaaW.PrintMore
open Go.Proofs.YtphbdoljkpdflaaW.PrintWords renaming Aside0.mk → O
open Go.RowKit renaming wrap64 → Z
attribute [local go_sem] max2_int min2_int max_two min_two max_three min_three max_four min_four
set_option linter.unusedVariables false
set_option linter.unusedSimpArgs false
def IsS101 (w0 W : World) (g : Nat) (f0 : List Int) (f1 : Int) : Prop:=∃ A0 c0,W.heap[g]? = some (.cells #[.slice A0 f0.length c0,.int .i64 f1] 101 (0,0)) ∧ w0.heap.size ≤ g ∧ Kd.C (Kd.int .u8) w0 A0 f0.length f0
theorem IsS101.grown {w0 W : World} {g : Nat} {f0 : List Int} {f1 : Int} {W1 : World} {row : Option Nat} (h : IsS101 w0 W g f0 f1) (hw : W.grownBy W1 row) (hne : some g ≠ row) : IsS101 w0 W1 g f0 f1:=by
 obtain ⟨A0,c0,hb,hg,hr0⟩:=h
 exact ⟨A0,c0,blk_grown hb hw hne,hg,hr0⟩
theorem IsS101.own_neN {w0 W : World} {g : Nat} {f0 : List Int} {f1 : Int} {α : Type} {d : Kd α} {e : Nat} {base : Nat} {ok : Nat → Prop} {v : Value} {xs : List α} (h : IsS101 w0 W g f0 f1) (ho : Kd.N d e W base ok v xs) (ht : e ≠ 101) : some g ≠ v.ownBlock:=by
 obtain ⟨A0,c0,hb,hg,hr0⟩:=h
 exact Kd.N_ne ho hb ht
theorem IsS101.fresh {w0 W : World} {g : Nat} {f0 : List Int} {f1 : Int} (h : IsS101 w0 W g f0 f1) : ∀ k,W.heap.size ≤ k → k ≠ g:=by
 obtain ⟨A0,c0,hb,hg,hr0⟩:=h
 exact Kd.freshB hb
theorem IsS101.kept {w0 W : World} {g : Nat} {f0 : List Int} {f1 : Int} {W1 : World} {S : Nat → Prop} (h : IsS101 w0 W g f0 f1) (hk : Kept W W1 S) (hne : ¬ S g) : IsS101 w0 W1 g f0 f1:=by
 obtain ⟨A0,c0,hb,hg,hr0⟩:=h
 exact ⟨A0,c0,blk_kept hb hk hne,hg,hr0⟩
theorem IsS101.below {w0 W : World} {g : Nat} {f0 : List Int} {f1 : Int} {W1 : World} (h : IsS101 w0 W g f0 f1) (hw : Below W.heap.size W W1) : IsS101 w0 W1 g f0 f1:=h.grown (grown_of_below hw none) (by simp)
theorem IsS101.alloc {w0 W : World} {g : Nat} {f0 : List Int} {f1 : Int} (h : IsS101 w0 W g f0 f1) (o : Obj) : IsS101 w0 (W.alloc o) g f0 f1:=h.below (below_alloc (Below.refl _ _) o)
theorem IsS101.drewN {w0 W : World} {g : Nat} {f0 : List Int} {f1 : Int} (h : IsS101 w0 W g f0 f1) (m : Nat) : IsS101 w0 (W.drewN m) g f0 f1:=h
theorem IsS101.drew {w0 W : World} {g : Nat} {f0 : List Int} {f1 : Int} (h : IsS101 w0 W g f0 f1) : IsS101 w0 W.drew g f0 f1:=h
theorem IsS101.at_ {w0 W : World} {g : Nat} {f0 : List Int} {f1 : Int} {w' : World} {m : Nat} (hq : W.drewN m = w') (h : IsS101 w0 W g f0 f1) : IsS101 w0 w' g f0 f1:=by subst hq;exact IsS101.drewN h m
theorem IsS101.apart {w0 W : World} {g : Nat} {f0 : List Int} {f1 : Int} {α : Type} {d : Kd α} {e : Nat} {base : Nat} {ok : Nat → Prop} {v : Value} {xs : List α} (h : IsS101 w0 W g f0 f1) (ho : d.R e W base ok v xs) (ht : ∀ q,q ∈ e :: d.E → q ≠ 101) : d.R e W base (fun k=>ok k ∧ k ≠ g) v xs:=by
 obtain ⟨A0,c0,hb,hg,hr0⟩:=h
 exact Kd.R_types ho hb ht
theorem IsS101.own_ne {w0 W : World} {g : Nat} {f0 : List Int} {f1 : Int} {α : Type} {d : Kd α} {e : Nat} {base : Nat} {ok : Nat → Prop} {v : Value} {xs : List α} (h : IsS101 w0 W g f0 f1) (ho : d.R e W base ok v xs) (ht : e ≠ 101) : some g ≠ v.ownBlock:=by
 obtain ⟨A0,c0,hb,hg,hr0⟩:=h
 exact Kd.R_ne ho hb ht
theorem IsS101.lt {w0 W : World} {g : Nat} {f0 : List Int} {f1 : Int} (h : IsS101 w0 W g f0 f1) : g < W.heap.size:=by
 obtain ⟨A0,c0,hb,hg,hr0⟩:=h
 exact blk_lt hb
theorem IsS101.ge {w0 W : World} {g : Nat} {f0 : List Int} {f1 : Int} (h : IsS101 w0 W g f0 f1) : w0.heap.size ≤ g:=by
 obtain ⟨A0,c0,hb,hg,hr0⟩:=h
 exact hg
theorem IsS101.far {w0 W : World} {g : Nat} {f0 : List Int} {f1 : Int} {p : Addr} (h : IsS101 w0 W g f0 f1) (hne : g ≠ p.block) (u : Value) : IsS101 w0 (W.setCell p u) g f0 f1:=by
 obtain ⟨A0,c0,hb,hg,hr0⟩:=h
 exact ⟨A0,c0,blk_far hb hne u,hg,hr0⟩
theorem cellS101_0 {W : World} {g : Nat} {A0 : Option Addr} {c0 : Nat} {f0 : List Int} {f1 : Int} (h : W.heap[g]? = some (.cells #[.slice A0 f0.length c0,.int .i64 f1] 101 (0,0))) : W.cell? ⟨g,0,none⟩ = some (.slice A0 f0.length c0):=(blk_cell h 0).trans rfl
theorem cellS101_1 {W : World} {g : Nat} {A0 : Option Addr} {c0 : Nat} {f0 : List Int} {f1 : Int} (h : W.heap[g]? = some (.cells #[.slice A0 f0.length c0,.int .i64 f1] 101 (0,0))) : W.cell? ⟨g,1,none⟩ = some (.int .i64 f1):=(blk_cell h 1).trans rfl
theorem IsS101.set_1 {w0 W : World} {g : Nat} {f0 : List Int} {f1 : Int} (h : IsS101 w0 W g f0 f1) (x : Int) : IsS101 w0 (W.setCell ⟨g,1,none⟩ (.int .i64 x)) g f0 x:=by
 obtain ⟨A0,c0,hb,hg,hr0⟩:=h
 exact ⟨A0,c0,by simpa using blk_set hb 1 (.int .i64 x),hg,hr0⟩
def spec_l11Open.f (l0 : List Int) : Option (List Int × Int):=if (l0.length : Int) > 2000 then (if 2000 ≤ (l0.length : Int) then (some (l0.take 2000,0)) else (none)) else (some (l0,0))
set_option maxHeartbeats 8000000 in
set_option maxRecDepth 100000 in
theorem spec_l11Open.calls (A0 : Option Addr) (c0 : Nat) (l0 : List Int) (r1 : List Int) (r2 : Int) (w0 w : World) (hB : Below w0.heap.size w0 w) (hr0 : Kd.C (Kd.int .u8) w0 A0 l0.length l0) (hc0 : l0.length ≤ c0) (h : spec_l11Open.f l0 = some (r1,r2)) :
  Calls Try.prog 50 #[.slice A0 l0.length c0] w fun e w'=>∃ g_ : Nat,e = .returned (.pointer (some ⟨g_,0,none⟩)) ∧ IsS101 w0 w' g_ r1 r2 ∧ Below w0.heap.size w0 w' ∧ Below w.heap.size w w':=by
 have hu101:=Try.underlying101;have HR0:=O hr0;have HC0:=O hc0;clear hr0 hc0;have HBW:=O (Below.refl w.heap.size w);have HW0:=O hB.size;have HB:=O hB;clear hB;have H : (if (l0.length : Int) > 2000 then (if 2000 ≤ (l0.length : Int) then (some (l0.take 2000,0)) else (none)) else (some (l0,0))) = some (r1,r2):=h;clear h
 by_cases c2 : (l0.length : Int) > 2000
 ·rw [if_pos c2] at H;have c2b0 : decide (2000 < (l0.length : Int)) = true:=decide_eq_true c2
  have c2b1 : decide (2000 < l0.length) = true:=decide_eq_true (by omega)
  clear c2
  by_cases c3 : 2000 ≤ (l0.length : Int)
  ·rw [if_pos c3] at H;have c3b0:=eq_true c3;have c3b1 : decide (2000 ≤ (l0.length : Int)) = true:=decide_eq_true c3;clear c3;simp only [Option.some.injEq,Prod.mk.injEq] at H;obtain ⟨rfl,rfl⟩:=H;obtain ⟨i04,hi04,_,hsz4,_⟩:=info_parts info5
   obtain ⟨hcut4,hA4,hC4⟩:=print_take_of (P:=Try.prog) (Value.int .u8) 0 38 5 .i64 Try.underlying38 hi04 hsz4 A0 c0 l0 2000 (by omega) (of_decide_eq_true (by first | (with_reducible assumption) | assumption)) HC0.out
   have HR395:=O (Kd.C_of_reads (h1:=fun _=>rfl) (hA4 _ (Kd.reads_of_C HR0.out)));have HC395:=O hC4;clear hA4 hC4 hi04 hsz4;go_enter Try.func50,Try.ntmps50
   go_wp2_with (first | ((with_reducible refine gate_dst (N:=10) rfl ?_);refine box_event ?hg (N:=10) ?hd (cs:=#[.slice A0 (l0.take 2000).length c0,.int .i64 0]) (t:=101) ?hr ?_;(case hd=>rfl);(case hg=>rfl);(case hr=>first | (go_simp;done) | (go_simp;rfl));intro gb396 hg w5 hbox hb;have n0_:=O (below_step HBW.out hb);have n1_:=O (below_step (q0_ HB) hb);have n2_:=O (hbox);have n3_:=O ((by rw [hg];exact (below_size (q0_ HBW)) : w.heap.size ≤ gb396));have n4_:=O ((Nat.le_trans HW0.out (by rw [hg];exact (below_size (q0_ HBW)) : w.heap.size ≤ gb396) : w0.heap.size ≤ gb396));clear HBW HB;have HBW:=n0_;have HB:=n1_;have BK396:=n2_;have GW396:=n3_;have GE396:=n4_;clear n0_ n1_ n2_ n3_ n4_ hb hbox hg))
   go_ret
   exact ⟨_,rfl,(show IsS101 w0 _ gb396 (l0.take 2000) 0 from ⟨_,_,by (with_reducible repeat (first | refine blk_drewN ?_ _ | refine blk_drew ?_ | refine blk_alloc ?_ _));exact BK396.out,GE396.out,HR395.out⟩),by repeat (first | (with_reducible first | exact HB.out | apply below_alloc | apply pw_below_drewN | apply below_drew1 | refine below_set ?_ GE396.out) | exact HB.out),by repeat (first | (with_reducible first | exact HBW.out | apply below_alloc | apply pw_below_drewN | apply below_drew1 | refine below_set ?_ GW396.out) | exact HBW.out)⟩
  ·rw [if_neg c3] at H
   exact absurd H (by simp)
 ·rw [if_neg c2] at H;have c2b0 : decide (2000 < (l0.length : Int)) = false:=decide_eq_false c2
  have c2b1 : decide (2000 < l0.length) = false:=decide_eq_false (by omega)
  clear c2;simp only [Option.some.injEq,Prod.mk.injEq] at H;obtain ⟨rfl,rfl⟩:=H;go_enter Try.func50,Try.ntmps50
  go_wp2_with (first | ((with_reducible refine gate_dst (N:=10) rfl ?_);refine box_event ?hg (N:=10) ?hd (cs:=#[.slice A0 l0.length c0,.int .i64 0]) (t:=101) ?hr ?_;(case hd=>rfl);(case hg=>rfl);(case hr=>first | (go_simp;done) | (go_simp;rfl));intro gb397 hg w6 hbox hb;have n0_:=O (below_step HBW.out hb);have n1_:=O (below_step (q0_ HB) hb);have n2_:=O (hbox);have n3_:=O ((by rw [hg];exact (below_size (q0_ HBW)) : w.heap.size ≤ gb397));have n4_:=O ((Nat.le_trans HW0.out (by rw [hg];exact (below_size (q0_ HBW)) : w.heap.size ≤ gb397) : w0.heap.size ≤ gb397));clear HBW HB;have HBW:=n0_;have HB:=n1_;have BK397:=n2_;have GW397:=n3_;have GE397:=n4_;clear n0_ n1_ n2_ n3_ n4_ hb hbox hg))
  go_ret
  exact ⟨_,rfl,(show IsS101 w0 _ gb397 l0 0 from ⟨_,_,by (with_reducible repeat (first | refine blk_drewN ?_ _ | refine blk_drew ?_ | refine blk_alloc ?_ _));exact BK397.out,GE397.out,HR0.out⟩),by repeat (first | (with_reducible first | exact HB.out | apply below_alloc | apply pw_below_drewN | apply below_drew1 | refine below_set ?_ GE397.out) | exact HB.out),by repeat (first | (with_reducible first | exact HBW.out | apply below_alloc | apply pw_below_drewN | apply below_drew1 | refine below_set ?_ GW397.out) | exact HBW.out)⟩
def spec_l11Rd_pick.j0 : Nat → Int → Bool → List Int → Int → Option (Int × Int)
 | 0,_,_,_,_=>none
 | k + 1,x1,x24,x1000,x1001=>if x24 = true then (some (0,x1001)) else (if (Z (x1001 - 1)) < (x1000.length : Int) then (if 0 ≤ (Z (x1001 - 1)) then (if x1 = 0 then (none) else (some (Int.tmod (Z (rd x1000 (Z (x1001 - 1)))) x1,x1001))) else (none)) else (if (x1000.length : Int) = 0 then (none) else (if 0 ≤ (Int.tmod (Z (x1001 - 1)) (x1000.length : Int)) then (if (Int.tmod (Z (x1001 - 1)) (x1000.length : Int)) < (x1000.length : Int) then (if 0 ≤ (Int.tmod (Z ((Z ((Z (x1001 - 1)) * 7)) + 3)) (x1000.length : Int)) then (if (Int.tmod (Z ((Z ((Z (x1001 - 1)) * 7)) + 3)) (x1000.length : Int)) < (x1000.length : Int) then (if x1 = 0 then (none) else (some (Int.tmod (Go.bits .xor .i64 (Z ((Z ((Z ((Z ((Z (rd x1000 (Int.tmod (Z (x1001 - 1)) (x1000.length : Int)))) * 131)) + (Z ((Z (rd x1000 (Int.tmod (Z ((Z ((Z (x1001 - 1)) * 7)) + 3)) (x1000.length : Int)))) * 1117)))) + (Z ((Z (x1001 - 1)) * 29)))) + (Z ((Z (Int.tdiv (Z (x1001 - 1)) (x1000.length : Int))) * 53)))) (Z (Int.tdiv (Z ((Z ((Z ((Z ((Z (rd x1000 (Int.tmod (Z (x1001 - 1)) (x1000.length : Int)))) * 131)) + (Z ((Z (rd x1000 (Int.tmod (Z ((Z ((Z (x1001 - 1)) * 7)) + 3)) (x1000.length : Int)))) * 1117)))) + (Z ((Z (x1001 - 1)) * 29)))) + (Z ((Z (Int.tdiv (Z (x1001 - 1)) (x1000.length : Int))) * 53)))) 64))) x1,x1001))) else (none)) else (none)) else (none)) else (none))))
def spec_l11Rd_pick.f (k : Nat) (s0_0 : List Int) (s0_1 : Int) (a1 : Int) : Option (Int × Int):=if a1 < 1 then (spec_l11Rd_pick.j0 k a1 true s0_0 (Z (s0_1 + 1))) else (spec_l11Rd_pick.j0 k a1 ((s0_0.length : Int) == 0) s0_0 (Z (s0_1 + 1)))
set_option maxHeartbeats 8000000 in
set_option maxRecDepth 100000 in
theorem spec_l11Rd_pick.calls (k : Nat) (g : Nat) (s0_0 : List Int) (s0_1 : Int) (a1 : Int) (r1 : Int) (r2 : Int) (w0 w : World) (hI : IsS101 w0 w g s0_0 s0_1) (hB : Below w0.heap.size w0 w) (h : spec_l11Rd_pick.f k s0_0 s0_1 a1 = some (r1,r2)) :
  Calls Try.prog 73 #[.pointer (some ⟨g,0,none⟩),.int .i64 a1] w fun e w'=>e = .returned (.int .i64 r1) ∧ IsS101 w0 w' g s0_0 r2 ∧ Below w0.heap.size w0 w' ∧ KeepBut w w' g none:=by
 have HI0:=O hI;have HK:=O (KeepBut.refl w g none);have HL:=O hB.size;clear hI;have HW0:=O hB.size;have HB:=O hB;clear hB;have H : (if a1 < 1 then (spec_l11Rd_pick.j0 k a1 true s0_0 (Z (s0_1 + 1))) else (spec_l11Rd_pick.j0 k a1 ((s0_0.length : Int) == 0) s0_0 (Z (s0_1 + 1)))) = some (r1,r2):=h;clear h;have HC3:=O H;clear H;obtain ⟨ASz4_0,cSz4_0,HGz4,hgz4,HSz4_0⟩:=HI0.out;have hcz4_0:=cellS101_0 HGz4;have hcz4_1:=cellS101_1 HGz4;have hfz4_1:=blk_frozen HGz4 1;clear HGz4 hgz4;go_enter Try.func73,Try.ntmps73
 go_upto_region 2 with (fail)
 repeat (go_quiet (fail);go_upto_region 2 with (fail))
 go_cut [24] (fun v24 wc=>∃ (kq : Nat) (x24_2 : Bool),v24 = .bool x24_2 ∧ Aside0 (spec_l11Rd_pick.j0 kq a1 x24_2 s0_0 (Z (s0_1 + 1)) = some (r1,r2)) ∧ Aside0 (kq ≤ k) ∧ Aside0 (IsS101 w0 wc g s0_0 (Z (s0_1 + 1))) ∧ Aside0 (KeepBut w wc g none) ∧ Aside0 (Below w0.heap.size w0 wc))
 case first =>
  have H:=HC3.out;clear HC3
  by_cases c5 : a1 < 1
  ·rw [if_pos c5] at H;have c5b0 : decide (a1 < 1) = true:=decide_eq_true c5;clear c5
   (first | rw [c5b0] | (simp only [i64_w,i32_w];rw [c5b0]) | skip)
   have H':=O H;clear H
   go_wp2
   repeat (go_quiet (fail);try go_wp2)
   go_meet
   case rel=>exact ⟨_,(true),(by first | rfl | (simp;done) | (simp [*];done)),H',⟨by first | omega | exact Nat.le_refl _⟩,⟨by repeat (first | (with_reducible first | exact HI0.out | apply IsS101.alloc | apply IsS101.drewN | apply IsS101.drew | apply IsS101.set_1) | exact HI0.out)⟩,⟨by repeat (first | (with_reducible first | exact HK.out | apply KeepBut.set_ | apply keep_drewN | apply keep_drew | apply keep_alloc) | exact HK.out)⟩,⟨by repeat (first | (with_reducible first | exact HB.out | apply below_alloc | apply pw_below_drewN | apply below_drew1 | refine below_set ?_ (IsS101.ge HI0.out)) | exact HB.out)⟩⟩
  ·rw [if_neg c5] at H;have c5b0 : decide (a1 < 1) = false:=decide_eq_false c5;clear c5
   (first | rw [c5b0] | (simp only [i64_w,i32_w];rw [c5b0]) | skip)
   have H':=O H;clear H;obtain ⟨ASz6_0,cSz6_0,HGz6,hgz6,HSz6_0⟩:=HI0.out;have hcz6_0:=cellS101_0 HGz6;have hcz6_1:=cellS101_1 HGz6;have hfz6_1:=blk_frozen HGz6 1;clear HGz6 hgz6
   go_wp2
   repeat (go_quiet (fail);try go_wp2)
   go_meet
   case rel=>exact ⟨_,(((s0_0.length : Int) == 0)),(by first | rfl | (simp;done) | (simp [*];done)),H',⟨by first | omega | exact Nat.le_refl _⟩,⟨by repeat (first | (with_reducible first | exact HI0.out | apply IsS101.alloc | apply IsS101.drewN | apply IsS101.drew | apply IsS101.set_1) | exact HI0.out)⟩,⟨by repeat (first | (with_reducible first | exact HK.out | apply KeepBut.set_ | apply keep_drewN | apply keep_drew | apply keep_alloc) | exact HK.out)⟩,⟨by repeat (first | (with_reducible first | exact HB.out | apply below_alloc | apply pw_below_drewN | apply below_drew1 | refine below_set ?_ (IsS101.ge HI0.out)) | exact HB.out)⟩⟩
 case rest =>
  clear HC3;(try clear p2);(try clear c5);(try clear c5b0);(try clear p6);(try clear hcz4_0);(try clear hcz4_1);(try clear hcz6_0);(try clear hcz6_1);(try clear hfz4_1);(try clear hfz6_1);obtain ⟨kq,x24_2,rfl,HA,HJ2,HI0,HK,HB⟩:=hcut
  cases kq with
  | zero=>exact absurd HA.out (by simp [spec_l11Rd_pick.j0])
  | succ kj2 =>
   have H:=HA.out;clear HA;simp only [spec_l11Rd_pick.j0] at H
   by_cases c7 : x24_2 = true
   ·subst c7
    have H1 : (some (0,(Z (s0_1 + 1)))) = some (r1,r2):=by rw [if_pos rfl] at H;exact H
    clear H;have H:=H1;clear H1;simp only [Option.some.injEq,Prod.mk.injEq] at H;obtain ⟨rfl,rfl⟩:=H
    go_wp2
    repeat (go_quiet (fail);try go_wp2)
    go_ret
    exact ⟨by first | rfl | (simp [errW_none,errW_some] <;> rfl) | (simp [*,errW_none,errW_some] <;> rfl),by repeat (first | (with_reducible first | exact HI0.out | apply IsS101.alloc | apply IsS101.drewN | apply IsS101.drew | apply IsS101.set_1) | exact HI0.out),by repeat (first | (with_reducible first | exact HB.out | apply below_alloc | apply pw_below_drewN | apply below_drew1 | refine below_set ?_ (IsS101.ge HI0.out)) | exact HB.out),by repeat (first | (with_reducible first | exact HK.out | apply KeepBut.set_ | apply keep_drewN | apply keep_drew | apply keep_alloc) | exact HK.out)⟩
   ·replace c7:=Bool.eq_false_iff.mpr c7;subst c7
    have H1 : (if (Z ((Z (s0_1 + 1)) - 1)) < (s0_0.length : Int) then (if 0 ≤ (Z ((Z (s0_1 + 1)) - 1)) then (if a1 = 0 then (none) else (some (Int.tmod (Z (rd s0_0 (Z ((Z (s0_1 + 1)) - 1)))) a1,(Z (s0_1 + 1))))) else (none)) else (if (s0_0.length : Int) = 0 then (none) else (if 0 ≤ (Int.tmod (Z ((Z (s0_1 + 1)) - 1)) (s0_0.length : Int)) then (if (Int.tmod (Z ((Z (s0_1 + 1)) - 1)) (s0_0.length : Int)) < (s0_0.length : Int) then (if 0 ≤ (Int.tmod (Z ((Z ((Z ((Z (s0_1 + 1)) - 1)) * 7)) + 3)) (s0_0.length : Int)) then (if (Int.tmod (Z ((Z ((Z ((Z (s0_1 + 1)) - 1)) * 7)) + 3)) (s0_0.length : Int)) < (s0_0.length : Int) then (if a1 = 0 then (none) else (some (Int.tmod (Go.bits .xor .i64 (Z ((Z ((Z ((Z ((Z (rd s0_0 (Int.tmod (Z ((Z (s0_1 + 1)) - 1)) (s0_0.length : Int)))) * 131)) + (Z ((Z (rd s0_0 (Int.tmod (Z ((Z ((Z ((Z (s0_1 + 1)) - 1)) * 7)) + 3)) (s0_0.length : Int)))) * 1117)))) + (Z ((Z ((Z (s0_1 + 1)) - 1)) * 29)))) + (Z ((Z (Int.tdiv (Z ((Z (s0_1 + 1)) - 1)) (s0_0.length : Int))) * 53)))) (Z (Int.tdiv (Z ((Z ((Z ((Z ((Z (rd s0_0 (Int.tmod (Z ((Z (s0_1 + 1)) - 1)) (s0_0.length : Int)))) * 131)) + (Z ((Z (rd s0_0 (Int.tmod (Z ((Z ((Z ((Z (s0_1 + 1)) - 1)) * 7)) + 3)) (s0_0.length : Int)))) * 1117)))) + (Z ((Z ((Z (s0_1 + 1)) - 1)) * 29)))) + (Z ((Z (Int.tdiv (Z ((Z (s0_1 + 1)) - 1)) (s0_0.length : Int))) * 53)))) 64))) a1,(Z (s0_1 + 1))))) else (none)) else (none)) else (none)) else (none)))) = some (r1,r2):=by rw [if_neg (show ¬ (false = true) by decide)] at H;exact H
    clear H;have H:=H1;clear H1
    by_cases c8 : (Z ((Z (s0_1 + 1)) - 1)) < (s0_0.length : Int)
    ·rw [if_pos c8] at H;have c8b0 : decide ((Z ((Z (s0_1 + 1)) - 1)) < (s0_0.length : Int)) = true:=decide_eq_true c8;clear c8;obtain ⟨ji9,hji9⟩ : ∃ j_ : Int,(Z ((Z (s0_1 + 1)) - 1)) = j_:=⟨_,rfl⟩
     replace H : (if 0 ≤ (ji9) then (if a1 = 0 then (none) else (some (Int.tmod (Z (rd s0_0 (ji9))) a1,(Z (s0_1 + 1))))) else (none)) = some (r1,r2):=by first | (rw [hji9] at H;exact H) | (simp only [hji9] at H ⊢;exact H)
     (try rw [hji9] at c8b0)
     have hji9w : (IntKind.i64.wrap ((Z (s0_1 + 1)) - 1)) = ji9:=(i64_w _).trans hji9
     by_cases c10 : 0 ≤ (ji9)
     ·rw [if_pos c10] at H;have c10b0 : decide (0 ≤ (ji9)) = true:=decide_eq_true c10;clear c10
      by_cases c11 : a1 = 0
      ·rw [if_pos c11] at H
       exact absurd H (by simp)
      ·rw [if_neg c11] at H;have c11b0 : (a1 == 0) = false:=beq_eq_false_iff_ne.mpr c11;have c11b1 : (a1 != 0) = true:=bne_iff_ne.mpr c11;simp only [Option.some.injEq,Prod.mk.injEq] at H;obtain ⟨rfl,rfl⟩:=H;obtain ⟨ASz12_0,cSz12_0,HGz12,hgz12,HSz12_0⟩:=HI0.out;have hcz12_0:=cellS101_0 HGz12;have hcz12_1:=cellS101_1 HGz12;have hfz12_1:=blk_frozen HGz12 1;clear HGz12 hgz12
       have p398 : 0 ≤ ((ji9) : Int):=of_decide_eq_true (by first | (with_reducible assumption) | assumption)
       have q398 : (ji9) < (s0_0.length : Int):=of_decide_eq_true (by first | (with_reducible assumption) | assumption)
       obtain ⟨ad398,e398,hx398_0⟩:=Kd.at_int HSz12_0 (ji9) p398 q398
       cases e398
       replace hx398_0:=pw_cell_below HB.out hx398_0;replace p398:=eq_true p398;replace q398:=eq_true q398
       go_wp2
       repeat (go_quiet (fail);try go_wp2)
       go_ret
       exact ⟨by first | rfl | (simp [errW_none,errW_some] <;> rfl) | (simp only [← hji9];first | rfl | (simp [errW_none,errW_some] <;> rfl)) | (simp [*,errW_none,errW_some] <;> rfl),by repeat (first | (with_reducible first | exact HI0.out | apply IsS101.alloc | apply IsS101.drewN | apply IsS101.drew | apply IsS101.set_1) | exact HI0.out),by repeat (first | (with_reducible first | exact HB.out | apply below_alloc | apply pw_below_drewN | apply below_drew1 | refine below_set ?_ (IsS101.ge HI0.out)) | exact HB.out),by repeat (first | (with_reducible first | exact HK.out | apply KeepBut.set_ | apply keep_drewN | apply keep_drew | apply keep_alloc) | exact HK.out)⟩
     ·rw [if_neg c10] at H
      exact absurd H (by simp)
    ·rw [if_neg c8] at H;have c8b0 : decide ((Z ((Z (s0_1 + 1)) - 1)) < (s0_0.length : Int)) = false:=decide_eq_false c8;clear c8
     by_cases c13 : (s0_0.length : Int) = 0
     ·rw [if_pos c13] at H
      exact absurd H (by simp)
     ·rw [if_neg c13] at H;have c13b0 : ((s0_0.length : Int) == 0) = false:=beq_eq_false_iff_ne.mpr c13;have c13b1 : ((s0_0.length : Int) != 0) = true:=bne_iff_ne.mpr c13
      have c13b2 : ¬ (s0_0 = []):=fun h_=>c13 (by rw [h_];rfl)
      obtain ⟨ji14,hji14⟩ : ∃ j_ : Int,(Int.tmod (Z ((Z (s0_1 + 1)) - 1)) (s0_0.length : Int)) = j_:=⟨_,rfl⟩
      replace H : (if 0 ≤ (ji14) then (if (ji14) < (s0_0.length : Int) then (if 0 ≤ (Int.tmod (Z ((Z ((Z ((Z (s0_1 + 1)) - 1)) * 7)) + 3)) (s0_0.length : Int)) then (if (Int.tmod (Z ((Z ((Z ((Z (s0_1 + 1)) - 1)) * 7)) + 3)) (s0_0.length : Int)) < (s0_0.length : Int) then (if a1 = 0 then (none) else (some (Int.tmod (Go.bits .xor .i64 (Z ((Z ((Z ((Z ((Z (rd s0_0 (ji14))) * 131)) + (Z ((Z (rd s0_0 (Int.tmod (Z ((Z ((Z ((Z (s0_1 + 1)) - 1)) * 7)) + 3)) (s0_0.length : Int)))) * 1117)))) + (Z ((Z ((Z (s0_1 + 1)) - 1)) * 29)))) + (Z ((Z (Int.tdiv (Z ((Z (s0_1 + 1)) - 1)) (s0_0.length : Int))) * 53)))) (Z (Int.tdiv (Z ((Z ((Z ((Z ((Z (rd s0_0 (ji14))) * 131)) + (Z ((Z (rd s0_0 (Int.tmod (Z ((Z ((Z ((Z (s0_1 + 1)) - 1)) * 7)) + 3)) (s0_0.length : Int)))) * 1117)))) + (Z ((Z ((Z (s0_1 + 1)) - 1)) * 29)))) + (Z ((Z (Int.tdiv (Z ((Z (s0_1 + 1)) - 1)) (s0_0.length : Int))) * 53)))) 64))) a1,(Z (s0_1 + 1))))) else (none)) else (none)) else (none)) else (none)) = some (r1,r2):=by first | (rw [hji14] at H;exact H) | (simp only [hji14] at H ⊢;exact H)
      by_cases c15 : 0 ≤ (ji14)
      ·rw [if_pos c15] at H;have c15b0 : decide (0 ≤ (ji14)) = true:=decide_eq_true c15;clear c15
       by_cases c16 : (ji14) < (s0_0.length : Int)
       ·rw [if_pos c16] at H;have c16b0 : decide ((ji14) < (s0_0.length : Int)) = true:=decide_eq_true c16;clear c16;obtain ⟨ji17,hji17⟩ : ∃ j_ : Int,(Int.tmod (Z ((Z ((Z ((Z (s0_1 + 1)) - 1)) * 7)) + 3)) (s0_0.length : Int)) = j_:=⟨_,rfl⟩
        replace H : (if 0 ≤ (ji17) then (if (ji17) < (s0_0.length : Int) then (if a1 = 0 then (none) else (some (Int.tmod (Go.bits .xor .i64 (Z ((Z ((Z ((Z ((Z (rd s0_0 (ji14))) * 131)) + (Z ((Z (rd s0_0 (ji17))) * 1117)))) + (Z ((Z ((Z (s0_1 + 1)) - 1)) * 29)))) + (Z ((Z (Int.tdiv (Z ((Z (s0_1 + 1)) - 1)) (s0_0.length : Int))) * 53)))) (Z (Int.tdiv (Z ((Z ((Z ((Z ((Z (rd s0_0 (ji14))) * 131)) + (Z ((Z (rd s0_0 (ji17))) * 1117)))) + (Z ((Z ((Z (s0_1 + 1)) - 1)) * 29)))) + (Z ((Z (Int.tdiv (Z ((Z (s0_1 + 1)) - 1)) (s0_0.length : Int))) * 53)))) 64))) a1,(Z (s0_1 + 1))))) else (none)) else (none)) = some (r1,r2):=by first | (rw [hji17] at H;exact H) | (simp only [hji17] at H ⊢;exact H)
        by_cases c18 : 0 ≤ (ji17)
        ·rw [if_pos c18] at H;have c18b0 : decide (0 ≤ (ji17)) = true:=decide_eq_true c18;clear c18
         by_cases c19 : (ji17) < (s0_0.length : Int)
         ·rw [if_pos c19] at H;have c19b0 : decide ((ji17) < (s0_0.length : Int)) = true:=decide_eq_true c19;clear c19
          by_cases c20 : a1 = 0
          ·rw [if_pos c20] at H
           exact absurd H (by simp)
          ·rw [if_neg c20] at H;have c20b0 : (a1 == 0) = false:=beq_eq_false_iff_ne.mpr c20;have c20b1 : (a1 != 0) = true:=bne_iff_ne.mpr c20;simp only [Option.some.injEq,Prod.mk.injEq] at H;obtain ⟨rfl,rfl⟩:=H;obtain ⟨ASz21_0,cSz21_0,HGz21,hgz21,HSz21_0⟩:=HI0.out;have hcz21_0:=cellS101_0 HGz21;have hcz21_1:=cellS101_1 HGz21;have hfz21_1:=blk_frozen HGz21 1;clear HGz21 hgz21
           have p399 : 0 ≤ ((ji14) : Int):=of_decide_eq_true (by first | (with_reducible assumption) | assumption)
           have q399 : (ji14) < (s0_0.length : Int):=of_decide_eq_true (by first | (with_reducible assumption) | assumption)
           obtain ⟨ad399,e399,hx399_0⟩:=Kd.at_int HSz21_0 (ji14) p399 q399
           cases e399
           replace hx399_0:=pw_cell_below HB.out hx399_0;replace p399:=eq_true p399;replace q399:=eq_true q399
           have p400 : 0 ≤ ((ji17) : Int):=of_decide_eq_true (by first | (with_reducible assumption) | assumption)
           have q400 : (ji17) < (s0_0.length : Int):=of_decide_eq_true (by first | (with_reducible assumption) | assumption)
           obtain ⟨ad400,e400,hx400_0⟩:=Kd.at_int HSz21_0 (ji17) p400 q400
           obtain rfl : ad399 = ad400:=(by injection e400)
           replace hx400_0:=pw_cell_below HB.out hx400_0;replace p400:=eq_true p400;replace q400:=eq_true q400
           go_wp2
           repeat (go_quiet (fail);try go_wp2)
           go_ret
           exact ⟨by first | rfl | (simp [errW_none,errW_some] <;> rfl) | (simp only [← hji14,← hji17];first | rfl | (simp [errW_none,errW_some] <;> rfl)) | (simp [*,errW_none,errW_some] <;> rfl),by repeat (first | (with_reducible first | exact HI0.out | apply IsS101.alloc | apply IsS101.drewN | apply IsS101.drew | apply IsS101.set_1) | exact HI0.out),by repeat (first | (with_reducible first | exact HB.out | apply below_alloc | apply pw_below_drewN | apply below_drew1 | refine below_set ?_ (IsS101.ge HI0.out)) | exact HB.out),by repeat (first | (with_reducible first | exact HK.out | apply KeepBut.set_ | apply keep_drewN | apply keep_drew | apply keep_alloc) | exact HK.out)⟩
         ·rw [if_neg c19] at H
          exact absurd H (by simp)
        ·rw [if_neg c18] at H
         exact absurd H (by simp)
       ·rw [if_neg c16] at H
        exact absurd H (by simp)
      ·rw [if_neg c15] at H
       exact absurd H (by simp)
def spec_l11Rd_num.f (k : Nat) (s0_0 : List Int) (s0_1 : Int) (l1 : List Int) : Option (Int × Int):=(spec_l11Rd_pick.f k s0_0 s0_1 (l1.length : Int)).bind fun bt401=>(if 0 ≤ bt401.1 then (if bt401.1 < (l1.length : Int) then (some (rd l1 bt401.1,bt401.2)) else (none)) else (none))
set_option maxHeartbeats 8000000 in
set_option maxRecDepth 100000 in
theorem spec_l11Rd_num.calls (k : Nat) (g : Nat) (s0_0 : List Int) (s0_1 : Int) (A1 : Option Addr) (c1 : Nat) (l1 : List Int) (r1 : Int) (r2 : Int) (w0 w : World) (hI : IsS101 w0 w g s0_0 s0_1) (hB : Below w0.heap.size w0 w) (hr1 : Kd.C (Kd.int .i64) w A1 l1.length l1) (hc1 : l1.length ≤ c1) (hf1 : ∀ ad,A1 = some ad → 0 < l1.length → ad.block ≠ g) (h : spec_l11Rd_num.f k s0_0 s0_1 l1 = some (r1,r2)) :
  Calls Try.prog 74 #[.pointer (some ⟨g,0,none⟩),.slice A1 l1.length c1] w fun e w'=>e = .returned (.int .i64 r1) ∧ IsS101 w0 w' g s0_0 r2 ∧ Below w0.heap.size w0 w' ∧ KeepBut w w' g none:=by
 have HR1:=O hr1;have HC1:=O hc1;clear hr1 hc1;have HI0:=O hI;have HK:=O (KeepBut.refl w g none);have HL:=O hB.size;clear hI;have HW0:=O hB.size;have HB:=O hB;clear hB;have H : ((spec_l11Rd_pick.f k s0_0 s0_1 (l1.length : Int)).bind fun bt401=>(if 0 ≤ bt401.1 then (if bt401.1 < (l1.length : Int) then (some (rd l1 bt401.1,bt401.2)) else (none)) else (none))) = some (r1,r2):=h;clear h;replace H:=Option.bind_eq_some_iff.mp H;obtain ⟨⟨t401,t402⟩,A30,H⟩:=H;replace H : (if 0 ≤ t401 then (if t401 < (l1.length : Int) then (some (rd l1 t401,t402)) else (none)) else (none)) = some (r1,r2):=H;have A3:=O A30;clear A30
 by_cases c4 : 0 ≤ t401
 ·rw [if_pos c4] at H;have c4b0 : decide (0 ≤ t401) = true:=decide_eq_true c4;clear c4
  by_cases c5 : t401 < (l1.length : Int)
  ·rw [if_pos c5] at H;have c5b0 : decide (t401 < (l1.length : Int)) = true:=decide_eq_true c5;clear c5;simp only [Option.some.injEq,Prod.mk.injEq] at H;obtain ⟨rfl,rfl⟩:=H;go_enter Try.func74,Try.ntmps74
   go_wp2_with (first | ((with_reducible refine gate_callee (f:=73) rfl ?_);refine goesM_ (some 9) Try.func73 #[.pointer (some ⟨g,0,none⟩),.int .i64 (l1.length : Int)] ?_;(with_reducible refine (spec_l11Rd_pick.calls k g s0_0 s0_1 (l1.length : Int) t401 t402 w0 _ ?side1 ?side2 A3.out).mono ?_);(case side1=>exact q8_ HI0);(case side2=>exact q9_ HB HI0);rintro e w6 ⟨rfl,hi,hb,hk⟩;refine ⟨_,rfl,?_⟩;have n0_:=O (KeepBut.trans (q10_ HK) hk (.inl rfl));have n1_:=O (hb);have n2_:=O (hi);clear HK HB HI0;have HK:=n0_;have HB:=n1_;have HI0:=n2_;clear n0_ n1_ n2_;(try clear hb);(try clear hk);(try clear hi);have p403 : 0 ≤ (t401 : Int):=of_decide_eq_true (by first | (with_reducible assumption) | assumption);have q403 : t401 < (l1.length : Int):=of_decide_eq_true (by first | (with_reducible assumption) | assumption);obtain ⟨ad403,e403,hx403_0⟩:=Kd.at_int HR1.out t401 p403 q403;cases e403;replace hx403_0:=keep_cell HK.out hx403_0 (by first | (rw [add_block];exact hf1 _ rfl (by omega)) | exact hf1 _ rfl (by omega) | exact hf1 ad403 rfl (by omega));replace p403:=eq_true p403;replace q403:=eq_true q403))
   go_ret
   exact ⟨by first | rfl | (simp [errW_none,errW_some] <;> rfl) | (simp [*,errW_none,errW_some] <;> rfl),by repeat (first | (with_reducible first | exact HI0.out | apply IsS101.alloc | apply IsS101.drewN | apply IsS101.drew | apply IsS101.set_1) | exact HI0.out),by repeat (first | (with_reducible first | exact HB.out | apply below_alloc | apply pw_below_drewN | apply below_drew1 | refine below_set ?_ (IsS101.ge HI0.out)) | exact HB.out),by repeat (first | (with_reducible first | exact HK.out | apply KeepBut.set_ | apply keep_drewN | apply keep_drew | apply keep_alloc) | exact HK.out)⟩
  ·rw [if_neg c5] at H
   exact absurd H (by simp)
 ·rw [if_neg c4] at H
  exact absurd H (by simp)
end Go.Proofs.Ytphbdoljkpdflaa.P
