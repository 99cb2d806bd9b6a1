/- Parts of the proof of FnMeanSaid: plain Lean functions of Go functions, and that the calls come to what they say; no condition beyond those that each theorem names. -/
import Derived.Test.YtfbocgagfodgnaaZFnMeanSaid4
import Derived.Test.YtfbocgagfodgnaaZFnMeanSaid6
import Derived.Test.YtfbocgagfodgnaaZFnMeanSaid8
import Derived.Test.YtfbocgagfodgnaaZFnMeanSaid7
namespace Go.Proofs.Ytfbocgagfodgnaa.P
open Go.RowKit Go.Proofs.YtfbocgagfodgnaaW.PrintWords Go.Proofs.YtfbocgagfodgnaaW.PrintLast Go.Proofs.YtfbocgagfodgnaaW.PrintMore
open Bool renaming true → O, false → Z
open Go.Proofs.YtfbocgagfodgnaaW.PrintWords renaming Aside0.mk → J, pw_below_drewN → Y
open List renaming setIfInBounds_toArray → E, set_cons_zero → U, set_cons_succ → G
open Go renaming World.block_lt_of_cell? → X
open Go.RowKit renaming wrap64 → Q
attribute [local go_sem] max2_int min2_int max_two min_two max_three min_three max_four min_four
set_option linter.unusedVariables false
set_option linter.unusedSimpArgs false
mutual
def spec_l2Many.l0 : Nat → List (S69) → Int → Int → Int → Option (Int)
 | 0,_,_,_,_=>none
 | k + 1,x0,x1,x5,x6=>if x6 < (x0.length : Int) then (spec_l2Many.j1 k x0 x1 x5 x6 (decide (x1 > 0))) else (spec_l2Many.j1 k x0 x1 x5 x6 false)
def spec_l2Many.j1 : Nat → List (S69) → Int → Int → Int → Bool → Option (Int)
 | 0,_,_,_,_,_=>none
 | k + 1,x0,x1,x5,x6,x14=>if x14 = true then (if 0 ≤ x6 then (if x6 < (x0.length : Int) then ((spec_l2Many.f k ((rd_T69 x0 x6).f4) (Q (x1 - 1))).bind fun t191=>((spec_l2Many.f k ((rd_T69 x0 x6).f5) (Q (x1 - 1))).bind fun t193=>(spec_l2Many.l0 k x0 x1 (Q ((Q ((Q (x5 + 1)) + t191)) + t193)) (Q (x6 + 1))))) else (none)) else (none)) else (some x5)
def spec_l2Many.f : Nat → List (S69) → Int → Option (Int)
 | 0,_,_=>none
 | k + 1,l0,a1=>spec_l2Many.l0 k l0 a1 0 0
end
def spec_l2Many.T5 : Bool × List (List Nat × List Nat):=(true,[([],[]),([0],[0]),([],[]),([],[]),([2,3],[2,3]),([4],[4]),([5],[5]),([],[]),([7],[7]),([6,8],[6,8]),([1,9],[1,9]),([],[]),([],[]),([11,12],[11,12]),([13],[13]),([14],[14]),([],[]),([16],[16]),([15,17,9],[15,17]),([10,18],[10,18]),([19,18,0,1,2,3,4,5,6,7,8,9,10,11,12,13,14,15,16,17,18,19],[0,19])])
def spec_l2Many.B5 : List Nat:=[0,1,0,0,12,28,60,0,128,508,1023,0,0,6144,14336,30720,0,65536,261116,524287,1048575]
theorem spec_l2Many.tab5 : rtab .any (opsOf Try.f51 5) = spec_l2Many.T5:=by kernel_rfl
theorem spec_l2Many.bits5 : waitsOk spec_l2Many.T5.2 spec_l2Many.B5 = true:=by kernel_rfl
set_option maxHeartbeats 8000000 in
set_option maxRecDepth 100000 in
theorem spec_l2Many.calls (k : Nat) : ∀ (A0 : Option Addr) (c0 : Nat) (l0 : List (S69)) (a1 : Int) (r : Int) (w : World) (hr0 : Kd.C k69 w A0 l0.length l0) (hc0 : l0.length ≤ c0) (h : spec_l2Many.f k l0 a1 = some r),
  Calls Try.prog 51 #[.slice A0 l0.length c0,.int .i64 a1] w fun e w'=>e = .returned (.int .i64 r) ∧ Below w.heap.size w w':=by
 induction k using Nat.strongRecOn with
 | _ k ih =>
 intro A0 c0 l0 a1 r w hr0 hc0 h
 cases k with
 | zero=>exact absurd h (by simp [spec_l2Many.f])
 | succ k =>
 simp only [spec_l2Many.f] at h;have HR0:=J hr0;have HC0:=J hc0;clear hr0 hc0;have HB:=J (Below.refl w.heap.size w);have H : (spec_l2Many.l0 k l0 a1 0 0) = some r:=h;clear h;have H':=J H;clear H;go_enter Try.func51,Try.ntmps51
 go_wp2
 go_loopg [5,6] k (fun kq v5 v6 w'=>∃ (x5_1 : Int) (x6_1 : Int),v5 = .int .i64 x5_1 ∧ v6 = .int .i64 x6_1 ∧ Aside0 (spec_l2Many.l0 kq l0 a1 x5_1 x6_1 = some r) ∧ Aside0 (kq ≤ k) ∧ Aside0 (Below w.heap.size w w'))
 case atStart=>exact ⟨(0),(0),(by first | rfl | (simp;done) | (simp [*];done)),(by first | rfl | (simp;done) | (simp [*];done)),H',⟨Nat.le_refl _⟩,⟨by repeat (first | (with_reducible first | exact HB.out | apply below_alloc | apply Y | apply below_drew1) | exact HB.out)⟩⟩
 case round =>
  clear H';(try clear p2);obtain ⟨x5_1,x6_1,rfl,rfl,HA,HK1,HB⟩:=hrel
  cases gk with
  | zero=>exact absurd HA.out (by simp [spec_l2Many.l0])
  | succ k1 =>
   have H:=HA.out;clear HA;simp only [spec_l2Many.l0] at H;have HC3:=J H;clear H
   go_upto_region 3 with (fail)
   go_cut [14] (fun v14 wc=>∃ (kq : Nat) (x14_2 : Bool),v14 = .bool x14_2 ∧ Aside0 (spec_l2Many.j1 kq l0 a1 x5_1 x6_1 x14_2 = some r) ∧ Aside0 (kq ≤ k1) ∧ Aside0 (Below w.heap.size w wc))
   case first =>
    have H:=HC3.out;clear HC3
    by_cases c4 : x6_1 < (l0.length : Int)
    ·rw [if_pos c4] at H;have c4b0 : decide (x6_1 < (l0.length : Int)) = true:=decide_eq_true c4;clear c4
     (first | rw [c4b0] | (simp only [i64_w,i32_w];rw [c4b0]) | skip)
     have H':=J H;clear H
     go_wp2
     go_meet
     case rel=>exact ⟨_,(decide (a1 > 0)),(by first | rfl | (simp;done) | (simp [*];done)),H',⟨by have:=HK1.out;first | omega | exact Nat.le_refl _⟩,⟨by repeat (first | (with_reducible first | exact HB.out | apply below_alloc | apply Y | apply below_drew1) | exact HB.out)⟩⟩
    ·rw [if_neg c4] at H;have c4b0 : decide (x6_1 < (l0.length : Int)) = false:=decide_eq_false c4;clear c4
     (first | rw [c4b0] | (simp only [i64_w,i32_w];rw [c4b0]) | skip)
     have H':=J H;clear H
     go_wp2
     go_meet
     case rel=>exact ⟨_,(false),(by first | rfl | (simp;done) | (simp [*];done)),H',⟨by have:=HK1.out;first | omega | exact Nat.le_refl _⟩,⟨by repeat (first | (with_reducible first | exact HB.out | apply below_alloc | apply Y | apply below_drew1) | exact HB.out)⟩⟩
   case rest =>
    clear HC3;(try clear p2);(try clear c4);(try clear c4b0);(try clear p2);obtain ⟨kq,x14_2,rfl,HA,HJ2,HB⟩:=hcut
    cases kq with
    | zero=>exact absurd HA.out (by simp [spec_l2Many.j1])
    | succ kj2 =>
     have H:=HA.out;clear HA;simp only [spec_l2Many.j1] at H
     by_cases c5 : x14_2 = true
     ·subst c5
      have H1 : (if 0 ≤ x6_1 then (if x6_1 < (l0.length : Int) then ((spec_l2Many.f kj2 ((rd_T69 l0 x6_1).f4) (Q (a1 - 1))).bind fun t191=>((spec_l2Many.f kj2 ((rd_T69 l0 x6_1).f5) (Q (a1 - 1))).bind fun t193=>(spec_l2Many.l0 kj2 l0 a1 (Q ((Q ((Q (x5_1 + 1)) + t191)) + t193)) (Q (x6_1 + 1))))) else (none)) else (none)) = some r:=by rw [if_pos rfl] at H;exact H
      clear H;have H:=H1;clear H1
      by_cases c6 : 0 ≤ x6_1
      ·rw [if_pos c6] at H;have c6b0 : decide (0 ≤ x6_1) = true:=decide_eq_true c6;clear c6
       by_cases c7 : x6_1 < (l0.length : Int)
       ·rw [if_pos c7] at H;have c7b0 : decide (x6_1 < (l0.length : Int)) = true:=decide_eq_true c7;clear c7;replace H:=Option.bind_eq_some_iff.mp H;obtain ⟨t191,A80,H⟩:=H;replace H : ((spec_l2Many.f kj2 ((rd_T69 l0 x6_1).f5) (Q (a1 - 1))).bind fun t193=>(spec_l2Many.l0 kj2 l0 a1 (Q ((Q ((Q (x5_1 + 1)) + t191)) + t193)) (Q (x6_1 + 1)))) = some r:=H;have A8:=J A80;clear A80;replace H:=Option.bind_eq_some_iff.mp H;obtain ⟨t193,A90,H⟩:=H;replace H : (spec_l2Many.l0 kj2 l0 a1 (Q ((Q ((Q (x5_1 + 1)) + t191)) + t193)) (Q (x6_1 + 1))) = some r:=H;have A9:=J A90;clear A90;have H':=J H;clear H
        try go_wp2
        have n0_:=J (below_drew1 HB.out);clear HB;have HB:=n0_;clear n0_
        have p190 : 0 ≤ (x6_1 : Int):=of_decide_eq_true (by first | (with_reducible assumption) | assumption)
        have q190 : x6_1 < (l0.length : Int):=of_decide_eq_true (by first | (with_reducible assumption) | assumption)
        obtain ⟨ad190,A190_4,c190_4,A190_5,c190_5,e190,hx190_0,hx190_1,hx190_2,hx190_3,hx190_4,hx190_5,hl190_4,hi190_4,hl190_5,hi190_5⟩:=at_T69 HR0.out x6_1 p190 q190;have hw190_5:=hx190_5;have hw190_4:=hx190_4;have hw190_3:=hx190_3;have hw190_2:=hx190_2;have hw190_1:=hx190_1;have hw190_0:=hx190_0
        cases e190
        replace hx190_0:=(HB.out.cell (X w _ hx190_0)).trans hx190_0;replace hx190_1:=(HB.out.cell (X w _ hx190_1)).trans hx190_1;replace hx190_2:=(HB.out.cell (X w _ hx190_2)).trans hx190_2;replace hx190_3:=(HB.out.cell (X w _ hx190_3)).trans hx190_3;replace hx190_4:=(HB.out.cell (X w _ hx190_4)).trans hx190_4;replace hx190_5:=(HB.out.cell (X w _ hx190_5)).trans hx190_5;have HR190_4:=J hi190_4;have HC190_4:=J hl190_4;clear hi190_4 hl190_4;have HR190_5:=J hi190_5;have HC190_5:=J hl190_5;clear hi190_5 hl190_5;replace p190:=eq_true p190;replace q190:=eq_true q190
        have p192 : 0 ≤ (x6_1 : Int):=of_decide_eq_true (by first | (with_reducible assumption) | assumption)
        have q192 : x6_1 < (l0.length : Int):=of_decide_eq_true (by first | (with_reducible assumption) | assumption)
        obtain ⟨ad192,A192_4,c192_4,A192_5,c192_5,e192,hx192_0,hx192_1,hx192_2,hx192_3,hx192_4,hx192_5,hl192_4,hi192_4,hl192_5,hi192_5⟩:=at_T69 HR0.out x6_1 p192 q192;have hw192_5:=hx192_5;have hw192_4:=hx192_4;have hw192_3:=hx192_3;have hw192_2:=hx192_2;have hw192_1:=hx192_1;have hw192_0:=hx192_0
        obtain rfl : ad190 = ad192:=(by injection e192)
        replace hx192_0:=(HB.out.cell (X w _ hx192_0)).trans hx192_0;replace hx192_1:=(HB.out.cell (X w _ hx192_1)).trans hx192_1;replace hx192_2:=(HB.out.cell (X w _ hx192_2)).trans hx192_2;replace hx192_3:=(HB.out.cell (X w _ hx192_3)).trans hx192_3;replace hx192_4:=(HB.out.cell (X w _ hx192_4)).trans hx192_4;replace hx192_5:=(HB.out.cell (X w _ hx192_5)).trans hx192_5;have HR192_4:=J hi192_4;have HC192_4:=J hl192_4;clear hi192_4 hl192_4;have HR192_5:=J hi192_5;have HC192_5:=J hl192_5;clear hi192_5 hl192_5;replace p192:=eq_true p192;replace q192:=eq_true q192;have ea_:=Option.some.inj (hx190_4.symm.trans hx192_4)
        injection ea_ with ea_ en_ ec_
        subst ea_;subst ec_;clear en_;have ea_:=Option.some.inj (hx190_5.symm.trans hx192_5)
        injection ea_ with ea_ en_ ec_
        subst ea_;subst ec_;clear en_
        refine start_ (n:=21) (S:=fun w'=>w'.cell? (ad190.add ((x6_1).toNat * 6)) = some (.int .i64 ((rd_T69 l0 x6_1).f0)) ∧ w'.cell? ⟨(ad190.add ((x6_1).toNat * 6)).block,(ad190.add ((x6_1).toNat * 6)).off + 1,none⟩ = some (.int .i64 ((rd_T69 l0 x6_1).f1)) ∧ w'.cell? ⟨(ad190.add ((x6_1).toNat * 6)).block,(ad190.add ((x6_1).toNat * 6)).off + 2,none⟩ = some (.int .i64 ((rd_T69 l0 x6_1).f2)) ∧ w'.cell? ⟨(ad190.add ((x6_1).toNat * 6)).block,(ad190.add ((x6_1).toNat * 6)).off + 3,none⟩ = some (.int .i64 ((rd_T69 l0 x6_1).f3)) ∧ w'.cell? ⟨(ad190.add ((x6_1).toNat * 6)).block,(ad190.add ((x6_1).toNat * 6)).off + 4,none⟩ = some (.slice A190_4 ((rd_T69 l0 x6_1).f4).length c190_4) ∧ w'.cell? ⟨(ad190.add ((x6_1).toNat * 6)).block,(ad190.add ((x6_1).toNat * 6)).off + 5,none⟩ = some (.slice A190_5 ((rd_T69 l0 x6_1).f5).length c190_5) ∧ w'.cell? (ad190.add ((x6_1).toNat * 6)) = some (.int .i64 ((rd_T69 l0 x6_1).f0)) ∧ w'.cell? ⟨(ad190.add ((x6_1).toNat * 6)).block,(ad190.add ((x6_1).toNat * 6)).off + 1,none⟩ = some (.int .i64 ((rd_T69 l0 x6_1).f1)) ∧ w'.cell? ⟨(ad190.add ((x6_1).toNat * 6)).block,(ad190.add ((x6_1).toNat * 6)).off + 2,none⟩ = some (.int .i64 ((rd_T69 l0 x6_1).f2)) ∧ w'.cell? ⟨(ad190.add ((x6_1).toNat * 6)).block,(ad190.add ((x6_1).toNat * 6)).off + 3,none⟩ = some (.int .i64 ((rd_T69 l0 x6_1).f3)) ∧ w'.cell? ⟨(ad190.add ((x6_1).toNat * 6)).block,(ad190.add ((x6_1).toNat * 6)).off + 4,none⟩ = some (.slice A190_4 ((rd_T69 l0 x6_1).f4).length c190_4) ∧ w'.cell? ⟨(ad190.add ((x6_1).toNat * 6)).block,(ad190.add ((x6_1).toNat * 6)).off + 5,none⟩ = some (.slice A190_5 ((rd_T69 l0 x6_1).f5).length c190_5)) (ds:=[]) #[Z,Z,Z,Z,Z,Z,Z,Z,Z,Z,Z,Z,Z,Z,Z,Z,Z,Z,Z,Z,Z] (by kernel_rfl) rfl rfl ⟨((HB.out.cell (X w _ hw190_0)).trans hw190_0),((HB.out.cell (X w _ hw190_1)).trans hw190_1),((HB.out.cell (X w _ hw190_2)).trans hw190_2),((HB.out.cell (X w _ hw190_3)).trans hw190_3),((HB.out.cell (X w _ hw190_4)).trans hw190_4),((HB.out.cell (X w _ hw190_5)).trans hw190_5),((HB.out.cell (X w _ hw192_0)).trans hw192_0),((HB.out.cell (X w _ hw192_1)).trans hw192_1),((HB.out.cell (X w _ hw192_2)).trans hw192_2),((HB.out.cell (X w _ hw192_3)).trans hw192_3),((HB.out.cell (X w _ hw192_4)).trans hw192_4),((HB.out.cell (X w _ hw192_5)).trans hw192_5)⟩ (fun hHeld=>?_);refine with_tabW spec_l2Many.tab5 spec_l2Many.bits5 (fun HT_ HW_=>?_)
        generalize wc.drew = w10 at HB HR190_4 HR190_5 HR192_4 HR192_5 hx190_0 hx190_1 hx190_2 hx190_3 hx190_4 hx190_5 hx192_0 hx192_1 hx192_2 hx192_3 hx192_4 hx192_5 hHeld ⊢
        refine pure_ (i:=0) (N:=some 17) (v:=?_) (a':=?_) #[O,Z,Z,Z,Z,Z,Z,Z,Z,Z,Z,Z,Z,Z,Z,Z,Z,Z,Z,Z,Z] rfl rfl (any_of HT_.out (by kernel_rfl)) (fun _ _ _ h=>h) (Or.inl ⟨by rfl,?_⟩) ?_ ?_;rotate_left;(intro w';go_simp;with_reducible rfl);rotate_left;((try simp only [Act.put,E,U,G,i64_w,i32_w]);rfl)
        refine pure_ (i:=1) (N:=some 18) (v:=?_) (a':=?_) #[O,O,Z,Z,Z,Z,Z,Z,Z,Z,Z,Z,Z,Z,Z,Z,Z,Z,Z,Z,Z] rfl rfl (any_of HT_.out (by kernel_rfl)) (fun _ _ _ h=>h) (Or.inl ⟨by rfl,?_⟩) ?_ ?_;rotate_left;(intro w';go_simp;with_reducible rfl);rotate_left;((try simp only [Act.put,E,U,G,i64_w,i32_w]);rfl)
        refine pure_ (i:=2) (N:=some 19) (v:=?_) (a':=?_) #[O,O,O,Z,Z,Z,Z,Z,Z,Z,Z,Z,Z,Z,Z,Z,Z,Z,Z,Z,Z] rfl rfl (any_of HT_.out (by kernel_rfl)) (fun _ _ _ h=>h) (Or.inl ⟨by rfl,?_⟩) ?_ ?_;rotate_left;(intro w';go_simp;with_reducible rfl);rotate_left;((try simp only [Act.put,E,U,G,i64_w,i32_w]);rfl)
        refine pure_ (i:=3) (N:=some 20) (v:=?_) (a':=?_) #[O,O,O,O,Z,Z,Z,Z,Z,Z,Z,Z,Z,Z,Z,Z,Z,Z,Z,Z,Z] rfl rfl (any_of HT_.out (by kernel_rfl)) (fun _ _ _ h=>h) (Or.inl ⟨by rfl,?_⟩) ?_ ?_;rotate_left;(intro w';go_simp;with_reducible rfl);rotate_left;((try simp only [Act.put,E,U,G,i64_w,i32_w]);rfl)
        refine pure_ (i:=4) (N:=some 21) (v:=?_) (a':=?_) #[O,O,O,O,O,Z,Z,Z,Z,Z,Z,Z,Z,Z,Z,Z,Z,Z,Z,Z,Z] rfl rfl (any_of HT_.out (by kernel_rfl)) (fun _ _ _ h=>h) (Or.inl ⟨by rfl,?_⟩) ?_ ?_;rotate_left;(intro w';go_simp;with_reducible rfl);rotate_left;((try simp only [Act.put,E,U,G,i64_w,i32_w]);rfl)
        refine pure_ (i:=5) (N:=some 22) (v:=?_) (a':=?_) #[O,O,O,O,O,O,Z,Z,Z,Z,Z,Z,Z,Z,Z,Z,Z,Z,Z,Z,Z] rfl rfl (any_of HT_.out (by kernel_rfl)) (fun _ _ _ h=>h) (Or.inl ⟨by rfl,?_⟩) ?_ ?_;rotate_left;(intro w';go_simp;with_reducible rfl);rotate_left;((try simp only [Act.put,E,U,G,i64_w,i32_w]);rfl)
        refine pure_ (i:=7) (N:=some 24) (v:=?_) (a':=?_) #[O,O,O,O,O,O,Z,O,Z,Z,Z,Z,Z,Z,Z,Z,Z,Z,Z,Z,Z] rfl rfl (any_of HT_.out (by kernel_rfl)) (fun _ _ _ h=>h) (Or.inl ⟨by rfl,?_⟩) ?_ ?_;rotate_left;(intro w';go_simp;with_reducible rfl);rotate_left;((try simp only [Act.put,E,U,G,i64_w,i32_w]);rfl)
        refine pure_ (i:=8) (N:=some 25) (v:=?_) (a':=?_) #[O,O,O,O,O,O,Z,O,O,Z,Z,Z,Z,Z,Z,Z,Z,Z,Z,Z,Z] rfl rfl (any_of HT_.out (by kernel_rfl)) (fun _ _ _ h=>h) (Or.inl ⟨by rfl,?_⟩) ?_ ?_;rotate_left;(intro w';go_simp;with_reducible rfl);rotate_left;((try simp only [Act.put,E,U,G,i64_w,i32_w]);rfl)
        refine pure_ (i:=11) (N:=some 28) (v:=?_) (a':=?_) #[O,O,O,O,O,O,Z,O,O,Z,Z,O,Z,Z,Z,Z,Z,Z,Z,Z,Z] rfl rfl (any_of HT_.out (by kernel_rfl)) (fun _ _ _ h=>h) (Or.inl ⟨by rfl,?_⟩) ?_ ?_;rotate_left;(intro w';go_simp;with_reducible rfl);rotate_left;((try simp only [Act.put,E,U,G,i64_w,i32_w]);rfl)
        refine pure_ (i:=12) (N:=some 29) (v:=?_) (a':=?_) #[O,O,O,O,O,O,Z,O,O,Z,Z,O,O,Z,Z,Z,Z,Z,Z,Z,Z] rfl rfl (any_of HT_.out (by kernel_rfl)) (fun _ _ _ h=>h) (Or.inl ⟨by rfl,?_⟩) ?_ ?_;rotate_left;(intro w';go_simp;with_reducible rfl);rotate_left;((try simp only [Act.put,E,U,G,i64_w,i32_w]);rfl)
        refine pure_ (i:=13) (N:=some 30) (v:=?_) (a':=?_) #[O,O,O,O,O,O,Z,O,O,Z,Z,O,O,O,Z,Z,Z,Z,Z,Z,Z] rfl rfl (any_of HT_.out (by kernel_rfl)) (fun _ _ _ h=>h) (Or.inl ⟨by rfl,?_⟩) ?_ ?_;rotate_left;(intro w';go_simp;with_reducible rfl);rotate_left;((try simp only [Act.put,E,U,G,i64_w,i32_w]);rfl)
        refine pure_ (i:=14) (N:=some 31) (v:=?_) (a':=?_) #[O,O,O,O,O,O,Z,O,O,Z,Z,O,O,O,O,Z,Z,Z,Z,Z,Z] rfl rfl (any_of HT_.out (by kernel_rfl)) (fun _ _ _ h=>h) (Or.inl ⟨by rfl,?_⟩) ?_ ?_;rotate_left;(intro w';go_simp;with_reducible rfl);rotate_left;((try simp only [Act.put,E,U,G,i64_w,i32_w]);rfl)
        refine pure_ (i:=16) (N:=some 33) (v:=?_) (a':=?_) #[O,O,O,O,O,O,Z,O,O,Z,Z,O,O,O,O,Z,O,Z,Z,Z,Z] rfl rfl (any_of HT_.out (by kernel_rfl)) (fun _ _ _ h=>h) (Or.inl ⟨by rfl,?_⟩) ?_ ?_;rotate_left;(intro w';go_simp;with_reducible rfl);rotate_left;((try simp only [Act.put,E,U,G,i64_w,i32_w]);rfl)
        refine pure_ (i:=17) (N:=some 34) (v:=?_) (a':=?_) #[O,O,O,O,O,O,Z,O,O,Z,Z,O,O,O,O,Z,O,O,Z,Z,Z] rfl rfl (any_of HT_.out (by kernel_rfl)) (fun _ _ _ h=>h) (Or.inl ⟨by rfl,?_⟩) ?_ ?_;rotate_left;(intro w';go_simp;with_reducible rfl);rotate_left;((try simp only [Act.put,E,U,G,i64_w,i32_w]);rfl)
        refine take_ (i:=6) (N:=some 23) (v:=?_) (a':=?_) #[O,O,O,O,O,O,O,O,O,Z,Z,O,O,O,O,Z,O,O,Z,Z,Z] rfl rfl (take_ofW HT_.out HW_.out (by kernel_rfl)) (fun _ _ _ h=>h) (Or.inl ⟨by rfl,?_⟩) hHeld ?_ ?_;rotate_left;(rintro w' ⟨s0,s1,s2,s3,s4,s5,s6,s7,s8,s9,s10,s11⟩;go_simp;with_reducible rfl);rotate_left;((try simp only [Act.put,E,U,G,i64_w,i32_w]);rfl)
        refine take_ (i:=15) (N:=some 32) (v:=?_) (a':=?_) #[O,O,O,O,O,O,O,O,O,Z,Z,O,O,O,O,O,O,O,Z,Z,Z] rfl rfl (take_ofW HT_.out HW_.out (by kernel_rfl)) (fun _ _ _ h=>h) (Or.inl ⟨by rfl,?_⟩) hHeld ?_ ?_;rotate_left;(rintro w' ⟨s0,s1,s2,s3,s4,s5,s6,s7,s8,s9,s10,s11⟩;go_simp;with_reducible rfl);rotate_left;((try simp only [Act.put,E,U,G,i64_w,i32_w]);rfl)
        refine one_ (i:=9) (N:=some 26) #[O,O,O,O,O,O,O,O,O,O,Z,O,O,O,O,O,O,O,Z,Z,Z] rfl rfl (one_of HT_.out (by kernel_rfl)) (by decide) (fun K hK=>?_)
        refine goes_ Try.func51 (by kernel_rfl) rfl #[.slice A190_4 ((rd_T69 l0 x6_1).f4).length c190_4,.int .i64 (Q (a1 - 1))] (by rfl) rfl rfl (by (try simp only [List.map_toArray,List.map_cons,List.map_nil]);first | done | rfl | (simp only [List.length_drop,List.length_take];rfl)) ?_
        with_reducible refine (ih kj2 (by have:=HK1.out;have:=HJ2.out;omega) _ _ ((rd_T69 l0 x6_1).f4) (Q (a1 - 1)) t191 _ ?side1 ?side2 A8.out).mono ?_
        (case side1=>repeat (first | exact (Kd.C_below HR190_4.out HB.out) | (with_reducible refine Kd.C_alloc ?_ _) | (with_reducible refine Kd.C_drewN ?_ _) | (with_reducible refine Kd.C_drew ?_)))
        (case side2=>exact HC190_4.out)
        rintro e w11 ⟨rfl,hb⟩
        refine ⟨_,rfl,?_⟩
        have n0_:=J (below_step (q0_ HB) hb)
        clear HB;have HB:=n0_;clear n0_
        refine hK.out _ _ ⟨((HB.out.cell (X w _ hw190_0)).trans hw190_0),((HB.out.cell (X w _ hw190_1)).trans hw190_1),((HB.out.cell (X w _ hw190_2)).trans hw190_2),((HB.out.cell (X w _ hw190_3)).trans hw190_3),((HB.out.cell (X w _ hw190_4)).trans hw190_4),((HB.out.cell (X w _ hw190_5)).trans hw190_5),((HB.out.cell (X w _ hw192_0)).trans hw192_0),((HB.out.cell (X w _ hw192_1)).trans hw192_1),((HB.out.cell (X w _ hw192_2)).trans hw192_2),((HB.out.cell (X w _ hw192_3)).trans hw192_3),((HB.out.cell (X w _ hw192_4)).trans hw192_4),((HB.out.cell (X w _ hw192_5)).trans hw192_5)⟩ (fun hHeld=>?_)
        clear hK K
        refine norm_ (a':=?_) ?_ ?_
        rotate_left
        ·show Act.put _ (some 26) _ = _
         simp only [Act.put,E,U,G,i64_w,i32_w]
         rfl
        refine pure_ (i:=10) (N:=some 27) (v:=?_) (a':=?_) #[O,O,O,O,O,O,O,O,O,O,O,O,O,O,O,O,O,O,Z,Z,Z] rfl rfl (any_of HT_.out (by kernel_rfl)) (fun _ _ _ h=>h) (Or.inl ⟨by rfl,?_⟩) ?_ ?_;rotate_left;(intro w';go_simp;with_reducible rfl);rotate_left;((try simp only [Act.put,E,U,G,i64_w,i32_w]);rfl)
        refine one_ (i:=18) (N:=some 35) #[O,O,O,O,O,O,O,O,O,O,O,O,O,O,O,O,O,O,O,Z,Z] rfl rfl (one_of HT_.out (by kernel_rfl)) (by decide) (fun K hK=>?_)
        refine goes_ Try.func51 (by kernel_rfl) rfl #[.slice A190_5 ((rd_T69 l0 x6_1).f5).length c190_5,.int .i64 (Q (a1 - 1))] (by rfl) rfl rfl (by (try simp only [List.map_toArray,List.map_cons,List.map_nil]);first | done | rfl | (simp only [List.length_drop,List.length_take];rfl)) ?_
        with_reducible refine (ih kj2 (by have:=HK1.out;have:=HJ2.out;omega) _ _ ((rd_T69 l0 x6_1).f5) (Q (a1 - 1)) t193 _ ?side1 ?side2 A9.out).mono ?_
        (case side1=>repeat (first | exact (Kd.C_below HR192_5.out HB.out) | (with_reducible refine Kd.C_alloc ?_ _) | (with_reducible refine Kd.C_drewN ?_ _) | (with_reducible refine Kd.C_drew ?_)))
        (case side2=>exact HC192_5.out)
        rintro e w12 ⟨rfl,hb⟩
        refine ⟨_,rfl,?_⟩
        have n0_:=J (below_step (q0_ HB) hb)
        clear HB;have HB:=n0_;clear n0_
        refine hK.out _ _ ⟨((HB.out.cell (X w _ hw190_0)).trans hw190_0),((HB.out.cell (X w _ hw190_1)).trans hw190_1),((HB.out.cell (X w _ hw190_2)).trans hw190_2),((HB.out.cell (X w _ hw190_3)).trans hw190_3),((HB.out.cell (X w _ hw190_4)).trans hw190_4),((HB.out.cell (X w _ hw190_5)).trans hw190_5),((HB.out.cell (X w _ hw192_0)).trans hw192_0),((HB.out.cell (X w _ hw192_1)).trans hw192_1),((HB.out.cell (X w _ hw192_2)).trans hw192_2),((HB.out.cell (X w _ hw192_3)).trans hw192_3),((HB.out.cell (X w _ hw192_4)).trans hw192_4),((HB.out.cell (X w _ hw192_5)).trans hw192_5)⟩ (fun hHeld=>?_)
        clear hK K
        refine norm_ (a':=?_) ?_ ?_
        rotate_left
        ·show Act.put _ (some 35) _ = _
         simp only [Act.put,E,U,G,i64_w,i32_w]
         rfl
        refine pure_ (i:=19) (N:=some 36) (v:=?_) (a':=?_) #[O,O,O,O,O,O,O,O,O,O,O,O,O,O,O,O,O,O,O,O,Z] rfl rfl (any_of HT_.out (by kernel_rfl)) (fun _ _ _ h=>h) (Or.inl ⟨by rfl,?_⟩) ?_ ?_;rotate_left;(intro w';go_simp;with_reducible rfl);rotate_left;((try simp only [Act.put,E,U,G,i64_w,i32_w]);rfl)
        refine pure_ (i:=20) (N:=some 5) (v:=?_) (a':=?_) #[O,O,O,O,O,O,O,O,O,O,O,O,O,O,O,O,O,O,O,O,O] rfl rfl (any_of HT_.out (by kernel_rfl)) (fun _ _ _ h=>h) (Or.inl ⟨by rfl,?_⟩) ?_ ?_;rotate_left;(intro w';go_simp;with_reducible rfl);rotate_left;((try simp only [Act.put,E,U,G,i64_w,i32_w]);rfl)
        refine done_ (done_of HT_.out (by kernel_rfl)) ?_
        try go_wp2
        go_roundg kj2
        case measure=>have:=HK1.out;have:=HJ2.out;omega
        case rel=>exact ⟨(Q ((Q ((Q (x5_1 + 1)) + t191)) + t193)),(Q (x6_1 + 1)),(by first | rfl | (simp;done) | (simp [*];done)),(by first | rfl | (simp;done) | (simp [*];done)),H',⟨by have:=HK1.out;have:=HJ2.out;omega⟩,⟨by repeat (first | (with_reducible first | exact HB.out | apply below_alloc | apply Y | apply below_drew1) | exact HB.out)⟩⟩
       ·rw [if_neg c7] at H
        exact absurd H (by simp)
      ·rw [if_neg c6] at H
       exact absurd H (by simp)
     ·replace c5:=Bool.eq_false_iff.mpr c5;subst c5
      have H1 : (some x5_1) = some r:=by rw [if_neg (show ¬ (false = true) by decide)] at H;exact H
      clear H;have H:=H1;clear H1;obtain rfl:=Option.some.inj H
      go_wp2
      go_ret
      exact ⟨by first | rfl | (simp [errW_none,errW_some] <;> rfl) | (simp [*,errW_none,errW_some] <;> rfl),by repeat (first | (with_reducible first | exact HB.out | apply below_alloc | apply Y | apply below_drew1) | exact HB.out)⟩
def spec_StmtsOk.f (k : Nat) (l0 : List (S69)) : Option (Bool):=(spec_l2List.f k l0 3 (-1)).bind fun t194=>(if t194 = true then ((spec_l2Many.f k l0 3).bind fun t195=>(some (decide (t195 ≤ 14)))) else (some false))
set_option maxHeartbeats 8000000 in
set_option maxRecDepth 100000 in
theorem spec_StmtsOk.calls (k : Nat) (A0 : Option Addr) (c0 : Nat) (l0 : List (S69)) (r : Bool) (w : World) (hr0 : Kd.C k69 w A0 l0.length l0) (hc0 : l0.length ≤ c0) (h : spec_StmtsOk.f k l0 = some r) :
  Calls Try.prog 40 #[.slice A0 l0.length c0] w fun e w'=>e = .returned (.bool r) ∧ Below w.heap.size w w':=by
 have HR0:=J hr0;have HC0:=J hc0;clear hr0 hc0;have HB:=J (Below.refl w.heap.size w);have H : ((spec_l2List.f k l0 3 (-1)).bind fun t194=>(if t194 = true then ((spec_l2Many.f k l0 3).bind fun t195=>(some (decide (t195 ≤ 14)))) else (some false))) = some r:=h;clear h;replace H:=Option.bind_eq_some_iff.mp H;obtain ⟨t194,A20,H⟩:=H;replace H : (if t194 = true then ((spec_l2Many.f k l0 3).bind fun t195=>(some (decide (t195 ≤ 14)))) else (some false)) = some r:=H;have A2:=J A20;clear A20
 by_cases c3 : t194 = true
 ·subst c3
  have H1 : ((spec_l2Many.f k l0 3).bind fun t195=>(some (decide (t195 ≤ 14)))) = some r:=by rw [if_pos rfl] at H;exact H
  clear H;have H:=H1;clear H1;replace H:=Option.bind_eq_some_iff.mp H;obtain ⟨t195,A40,H⟩:=H;replace H : (some (decide (t195 ≤ 14))) = some r:=H;have A4:=J A40;clear A40;obtain rfl:=Option.some.inj H;go_enter Try.func40,Try.ntmps40
  go_wp2_with (first | ((with_reducible refine gate_callee (f:=50) rfl ?_);refine goesM_ (some 4) Try.func50 #[.slice A0 l0.length c0,.int .i64 3,.int .i64 (-1)] ?_;(with_reducible refine (spec_l2List.calls k _ _ l0 3 (-1) true _ ?side1 ?side2 A2.out).mono ?_);(case side1=>repeat (first | exact HR0.out | (with_reducible refine Kd.C_alloc ?_ _) | (with_reducible refine Kd.C_drewN ?_ _) | (with_reducible refine Kd.C_drew ?_)));(case side2=>exact HC0.out);rintro e w5 ⟨rfl,hb⟩;refine ⟨_,rfl,?_⟩;have n0_:=J (below_step (q0_ HB) hb);clear HB;have HB:=n0_;clear n0_;(try clear hb)) | (go_at_call 51;(with_reducible refine (spec_l2Many.calls k _ _ l0 3 t195 _ ?side1 ?side2 A4.out).mono ?_);(case side1=>repeat (first | exact (Kd.C_below HR0.out HB.out) | (with_reducible refine Kd.C_alloc ?_ _) | (with_reducible refine Kd.C_drewN ?_ _) | (with_reducible refine Kd.C_drew ?_)));(case side2=>exact HC0.out);rintro e w6 ⟨rfl,hb⟩;have n0_:=J (below_step (q0_ HB) hb);clear HB;have HB:=n0_;clear n0_;(try clear hb)))
  go_ret
  exact ⟨by first | rfl | (simp [errW_none,errW_some] <;> rfl) | (simp [*,errW_none,errW_some] <;> rfl),by repeat (first | (with_reducible first | exact HB.out | apply below_alloc | apply Y | apply below_drew1) | exact HB.out)⟩
 ·replace c3:=Bool.eq_false_iff.mpr c3;subst c3
  have H1 : (some false) = some r:=by rw [if_neg (show ¬ (false = true) by decide)] at H;exact H
  clear H;have H:=H1;clear H1;obtain rfl:=Option.some.inj H;go_enter Try.func40,Try.ntmps40
  go_wp2_with (first | ((with_reducible refine gate_callee (f:=50) rfl ?_);refine goesM_ (some 4) Try.func50 #[.slice A0 l0.length c0,.int .i64 3,.int .i64 (-1)] ?_;(with_reducible refine (spec_l2List.calls k _ _ l0 3 (-1) false _ ?side1 ?side2 A2.out).mono ?_);(case side1=>repeat (first | exact HR0.out | (with_reducible refine Kd.C_alloc ?_ _) | (with_reducible refine Kd.C_drewN ?_ _) | (with_reducible refine Kd.C_drew ?_)));(case side2=>exact HC0.out);rintro e w7 ⟨rfl,hb⟩;refine ⟨_,rfl,?_⟩;have n0_:=J (below_step (q0_ HB) hb);clear HB;have HB:=n0_;clear n0_;(try clear hb)))
  go_ret
  exact ⟨by first | rfl | (simp [errW_none,errW_some] <;> rfl) | (simp [*,errW_none,errW_some] <;> rfl),by repeat (first | (with_reducible first | exact HB.out | apply below_alloc | apply Y | apply below_drew1) | exact HB.out)⟩
def spec_ProgOk.l0 : Nat → List (List (S69)) → Int → Option (Bool)
 | 0,_,_=>none
 | k + 1,x0,x3=>if x3 < (x0.length : Int) then (if 0 ≤ x3 then ((spec_StmtsOk.f k (rd_L3 x0 x3)).bind fun t238=>(if t238 = true then (spec_ProgOk.l0 k x0 (Q (x3 + 1))) else (some false))) else (none)) else (if (x0.length : Int) ≥ 1 then (some (decide ((x0.length : Int) ≤ 3))) else (some false))
def spec_ProgOk.f (k : Nat) (l0 : List (List (S69))) : Option (Bool):=spec_ProgOk.l0 k l0 0
set_option maxHeartbeats 8000000 in
set_option maxRecDepth 100000 in
theorem spec_ProgOk.calls (k : Nat) (A0 : Option Addr) (c0 : Nat) (l0 : List (List (S69))) (r : Bool) (w : World) (hr0 : Kd.C (Kd.slice 69 k69) w A0 l0.length l0) (hc0 : l0.length ≤ c0) (h : spec_ProgOk.f k l0 = some r) :
  Calls Try.prog 22 #[.slice A0 l0.length c0] w fun e w'=>e = .returned (.bool r) ∧ Below w.heap.size w w':=by
 have HR0:=J hr0;have HC0:=J hc0;clear hr0 hc0;have HB:=J (Below.refl w.heap.size w);have H : (spec_ProgOk.l0 k l0 0) = some r:=h;clear h;have H':=J H;clear H;go_enter Try.func22,Try.ntmps22
 go_wp2
 go_loopg [3] k (fun kq v3 w'=>∃ (x3_1 : Int),v3 = .int .i64 x3_1 ∧ Aside0 (spec_ProgOk.l0 kq l0 x3_1 = some r) ∧ Aside0 (kq ≤ k) ∧ Aside0 (Below w.heap.size w w'))
 case atStart=>exact ⟨(0),(by first | rfl | (simp;done) | (simp [*];done)),H',⟨Nat.le_refl _⟩,⟨by repeat (first | (with_reducible first | exact HB.out | apply below_alloc | apply Y | apply below_drew1) | exact HB.out)⟩⟩
 case round =>
  clear H';obtain ⟨x3_1,rfl,HA,HK1,HB⟩:=hrel
  cases gk with
  | zero=>exact absurd HA.out (by simp [spec_ProgOk.l0])
  | succ k1 =>
   have H:=HA.out;clear HA;simp only [spec_ProgOk.l0] at H
   by_cases c2 : x3_1 < (l0.length : Int)
   ·rw [if_pos c2] at H;have c2b0 : decide (x3_1 < (l0.length : Int)) = true:=decide_eq_true c2;clear c2
    by_cases c3 : 0 ≤ x3_1
    ·rw [if_pos c3] at H;have c3b0 : decide (0 ≤ x3_1) = true:=decide_eq_true c3;clear c3;replace H:=Option.bind_eq_some_iff.mp H;obtain ⟨t238,A40,H⟩:=H;replace H : (if t238 = true then (spec_ProgOk.l0 k1 l0 (Q (x3_1 + 1))) else (some false)) = some r:=H;have A4:=J A40;clear A40
     by_cases c5 : t238 = true
     ·subst c5
      have H1 : (spec_ProgOk.l0 k1 l0 (Q (x3_1 + 1))) = some r:=by rw [if_pos rfl] at H;exact H
      clear H;have H:=H1;clear H1;have H':=J H;clear H
      have p237 : 0 ≤ (x3_1 : Int):=of_decide_eq_true (by first | (with_reducible assumption) | assumption)
      have q237 : x3_1 < (l0.length : Int):=of_decide_eq_true (by first | (with_reducible assumption) | assumption)
      obtain ⟨ad237,A237_0,c237_0,e237,hx237_0,hl237_0,hi237_0⟩:=at_L3 HR0.out x3_1 p237 q237
      cases e237
      replace hx237_0:=(HB.out.cell (X w _ hx237_0)).trans hx237_0;have HR237_0:=J hi237_0;have HC237_0:=J hl237_0;clear hi237_0 hl237_0;replace p237:=eq_true p237;replace q237:=eq_true q237
      go_wp2_with (first | ((with_reducible refine gate_callee (f:=40) rfl ?_);refine goesM_ (some 14) Try.func40 #[.slice A237_0 (rd_L3 l0 x3_1).length c237_0] ?_;(with_reducible refine (spec_StmtsOk.calls k1 _ _ (rd_L3 l0 x3_1) true _ ?side1 ?side2 A4.out).mono ?_);(case side1=>repeat (first | exact (Kd.C_below HR237_0.out HB.out) | (with_reducible refine Kd.C_alloc ?_ _) | (with_reducible refine Kd.C_drewN ?_ _) | (with_reducible refine Kd.C_drew ?_)));(case side2=>exact HC237_0.out);rintro e w6 ⟨rfl,hb⟩;refine ⟨_,rfl,?_⟩;have n0_:=J (below_step (q0_ HB) hb);clear HB;have HB:=n0_;clear n0_;(try clear hb)))
      go_roundg k1
      case measure=>have:=HK1.out;omega
      case rel=>exact ⟨(Q (x3_1 + 1)),(by first | rfl | (simp;done) | (simp [*];done)),H',⟨by have:=HK1.out;omega⟩,⟨by repeat (first | (with_reducible first | exact HB.out | apply below_alloc | apply Y | apply below_drew1) | exact HB.out)⟩⟩
     ·replace c5:=Bool.eq_false_iff.mpr c5;subst c5
      have H1 : (some false) = some r:=by rw [if_neg (show ¬ (false = true) by decide)] at H;exact H
      clear H;have H:=H1;clear H1;obtain rfl:=Option.some.inj H
      have p237 : 0 ≤ (x3_1 : Int):=of_decide_eq_true (by first | (with_reducible assumption) | assumption)
      have q237 : x3_1 < (l0.length : Int):=of_decide_eq_true (by first | (with_reducible assumption) | assumption)
      obtain ⟨ad237,A237_0,c237_0,e237,hx237_0,hl237_0,hi237_0⟩:=at_L3 HR0.out x3_1 p237 q237
      cases e237
      replace hx237_0:=(HB.out.cell (X w _ hx237_0)).trans hx237_0;have HR237_0:=J hi237_0;have HC237_0:=J hl237_0;clear hi237_0 hl237_0;replace p237:=eq_true p237;replace q237:=eq_true q237
      go_wp2_with (first | ((with_reducible refine gate_callee (f:=40) rfl ?_);refine goesM_ (some 14) Try.func40 #[.slice A237_0 (rd_L3 l0 x3_1).length c237_0] ?_;(with_reducible refine (spec_StmtsOk.calls k1 _ _ (rd_L3 l0 x3_1) false _ ?side1 ?side2 A4.out).mono ?_);(case side1=>repeat (first | exact (Kd.C_below HR237_0.out HB.out) | (with_reducible refine Kd.C_alloc ?_ _) | (with_reducible refine Kd.C_drewN ?_ _) | (with_reducible refine Kd.C_drew ?_)));(case side2=>exact HC237_0.out);rintro e w7 ⟨rfl,hb⟩;refine ⟨_,rfl,?_⟩;have n0_:=J (below_step (q0_ HB) hb);clear HB;have HB:=n0_;clear n0_;(try clear hb)))
      go_ret
      exact ⟨by first | rfl | (simp [errW_none,errW_some] <;> rfl) | (simp [*,errW_none,errW_some] <;> rfl),by repeat (first | (with_reducible first | exact HB.out | apply below_alloc | apply Y | apply below_drew1) | exact HB.out)⟩
    ·rw [if_neg c3] at H
     exact absurd H (by simp)
   ·rw [if_neg c2] at H;have c2b0 : decide (x3_1 < (l0.length : Int)) = false:=decide_eq_false c2;clear c2
    by_cases c8 : (l0.length : Int) ≥ 1
    ·rw [if_pos c8] at H;have c8b0 : decide (1 ≤ (l0.length : Int)) = true:=decide_eq_true c8
     have c8b1 : decide (1 ≤ l0.length) = true:=decide_eq_true (by omega)
     clear c8;obtain rfl:=Option.some.inj H
     go_wp2
     go_ret
     exact ⟨by first | rfl | (simp [errW_none,errW_some] <;> rfl) | (simp [*,errW_none,errW_some] <;> rfl),by repeat (first | (with_reducible first | exact HB.out | apply below_alloc | apply Y | apply below_drew1) | exact HB.out)⟩
    ·rw [if_neg c8] at H;have c8b0 : decide (1 ≤ (l0.length : Int)) = false:=decide_eq_false c8
     have c8b1 : decide (1 ≤ l0.length) = false:=decide_eq_false (by omega)
     clear c8;obtain rfl:=Option.some.inj H
     go_wp2
     go_ret
     exact ⟨by first | rfl | (simp [errW_none,errW_some] <;> rfl) | (simp [*,errW_none,errW_some] <;> rfl),by repeat (first | (with_reducible first | exact HB.out | apply below_alloc | apply Y | apply below_drew1) | exact HB.out)⟩
end Go.Proofs.Ytfbocgagfodgnaa.P

namespace Go.Proofs.Ytfbocgagfodgnaa.P
open Go.RowKit Go.Proofs.YtfbocgagfodgnaaW.PrintWords Go.Proofs.YtfbocgagfodgnaaW.PrintLast Go.Proofs.YtfbocgagfodgnaaW.PrintMore
open Go.Proofs.YtfbocgagfodgnaaW.PrintWords renaming Aside0.mk → O
attribute [local go_sem] max2_int min2_int max_two min_two max_three min_three max_four min_four
set_option linter.unusedVariables false
set_option linter.unusedSimpArgs false
mutual
def spec_l2Copy.l0 : Nat → List (S69) → Int → List (S69) → Int → Option ((List (S69)))
 | 0,_,_,_,_=>none
 | k + 1,x0,x1,x5,x6=>if x6 < (x0.length : Int) then (spec_l2Copy.j1 k x0 x1 x5 x6 (decide (x1 > 0))) else (spec_l2Copy.j1 k x0 x1 x5 x6 false)
def spec_l2Copy.j1 : Nat → List (S69) → Int → List (S69) → Int → Bool → Option ((List (S69)))
 | 0,_,_,_,_,_=>none
 | k + 1,x0,x1,x5,x6,x16=>if x16 = true then (if 0 ≤ x6 then (if x6 < (x0.length : Int) then ((spec_l2Copy.f k ((rd_T69 x0 x6).f4) (wrap64 (x1 - 1))).bind fun t390=>((spec_l2Copy.f k ((rd_T69 x0 x6).f5) (wrap64 (x1 - 1))).bind fun t393=>(if x5.length < 1759218604441 then (spec_l2Copy.l0 k x0 x1 (x5 ++ [(⟨(rd_T69 x0 x6).f0,(rd_T69 x0 x6).f1,(rd_T69 x0 x6).f2,(rd_T69 x0 x6).f3,t390,t393⟩ : S69)]) (wrap64 (x6 + 1))) else (none)))) else (none)) else (none)) else (some x5)
def spec_l2Copy.f : Nat → List (S69) → Int → Option ((List (S69)))
 | 0,_,_=>none
 | k + 1,l0,a1=>spec_l2Copy.l0 k l0 a1 (([] : List (S69))) 0
end
set_option maxHeartbeats 8000000 in
set_option maxRecDepth 100000 in
theorem spec_l2Copy.calls (k : Nat) : ∀ (A0 : Option Addr) (c0 : Nat) (l0 : List (S69)) (a1 : Int) (r : List (S69)) (w : World) (hr0 : Kd.C k69 w A0 l0.length l0) (hc0 : l0.length ≤ c0) (h : spec_l2Copy.f k l0 a1 = some r),
  Calls Try.prog 42 #[.slice A0 l0.length c0,.int .i64 a1] w fun e w'=>∃ v0_ : Value,e = .returned (v0_) ∧ Kd.R k69 69 w' w.heap.size (fun _=>True) v0_ r ∧ Below w.heap.size w w':=by
 induction k using Nat.strongRecOn with
 | _ k ih =>
 intro A0 c0 l0 a1 r w hr0 hc0 h
 cases k with
 | zero=>exact absurd h (by simp [spec_l2Copy.f])
 | succ k =>
 simp only [spec_l2Copy.f] at h;have hu69:=Try.underlying69;have HR0:=O hr0;have HC0:=O hc0;clear hr0 hc0;have HB:=O (Below.refl w.heap.size w);have H : (spec_l2Copy.l0 k l0 a1 (([] : List (S69))) 0) = some r:=h;clear h;obtain ⟨y385,hy385⟩ : ∃ y_ : List (S69),y_ = (([] : List (S69))):=⟨_,rfl⟩
 replace H : (spec_l2Copy.l0 k l0 a1 y385 0) = some r:=by first | (rw [hy385];with_reducible exact H) | (have H2_:=(Option.bind_some _ _).symm.trans H;rw [hy385];with_reducible exact H2_) | (have H2_:=(Option.bind_some _ _).symm.trans H;with_reducible exact H2_) | with_reducible exact H | (rw [hy385];exact H) | exact H
 have Ny385:=O hy385;clear hy385;have H':=O H;clear H;go_enter Try.func42,Try.ntmps42
 go_wp2_with (first | ((with_reducible refine gate_dst (N:=8) rfl ?_);refine Kd.R_lit k69 _ 69 ?hg (N:=8) ?hd (xs:=([] : List (S69))) (inner:=[]) (ok:=fun _=>True) (okp:=fun _=>True) ?hr ?hp (fun _ hk=>hk) trivial (Below.refl _ _) (Nat.le_refl _) (by simp) ?_;(case hd=>rfl);(case hg=>rfl);(case hr=>first | (go_simp;done) | (go_simp;rfl));(case hp=>exact (Reps.none _ _));intro v386 w3 ho4 hb hg_ hnew_;clear hg_ hnew_;(first | rw [← Ny385.out] at ho4 | (simp only [Int.reduceToNat] at ho4;rw [← Ny385.out] at ho4));have n0_:=O (Kd.R_lower ho4 (below_size (q0_ HB)));have n1_:=O (below_step (q0_ HB) hb);clear HB;have HO387:=n0_;have HB:=n1_;clear n0_ n1_ hb ho4))
 go_loopg [5,6] k (fun kq v5 v6 w'=>∃ (x5_1 : List (S69)) (x6_1 : Int),v6 = .int .i64 x6_1 ∧ Aside0 (spec_l2Copy.l0 kq l0 a1 x5_1 x6_1 = some r) ∧ Aside0 (kq ≤ k) ∧ Aside0 (Kd.R k69 69 w' w.heap.size (fun _=>True) v5 x5_1) ∧ Aside0 (Below w.heap.size w w'))
 case atStart=>exact ⟨(y385),(0),(by first | rfl | (simp;done) | (simp [*];done)),H',⟨Nat.le_refl _⟩,⟨by (with_reducible repeat (first | apply Kd.R_alloc | apply Kd.R_drewN | apply Kd.R_drew));exact HO387.out⟩,⟨by repeat (first | (with_reducible first | exact HB.out | apply below_alloc | apply pw_below_drewN | apply below_drew1) | exact HB.out)⟩⟩
 case round =>
  clear H';(try clear p2);(try clear c4);obtain ⟨x5_1,x6_1,rfl,HA,HK1,HO_5,HB⟩:=hrel
  cases gk with
  | zero=>exact absurd HA.out (by simp [spec_l2Copy.l0])
  | succ k1 =>
   have H:=HA.out;clear HA;simp only [spec_l2Copy.l0] at H;have HC5:=O H;clear H
   go_upto_region 3 with (fail)
   go_cut [16] (fun v16 wc=>∃ (kq : Nat) (x16_4 : Bool),v16 = .bool x16_4 ∧ Aside0 (spec_l2Copy.j1 kq l0 a1 x5_1 x6_1 x16_4 = some r) ∧ Aside0 (kq ≤ k1) ∧ Aside0 (Kd.R k69 69 wc w.heap.size (fun _=>True) u5 x5_1) ∧ Aside0 (Below w.heap.size w wc))
   case first =>
    have H:=HC5.out;clear HC5
    by_cases c6 : x6_1 < (l0.length : Int)
    ·rw [if_pos c6] at H;have c6b0 : decide (x6_1 < (l0.length : Int)) = true:=decide_eq_true c6;clear c6
     (first | rw [c6b0] | (simp only [i64_w,i32_w];rw [c6b0]) | skip)
     have H':=O H;clear H
     go_wp2
     go_meet
     case rel=>exact ⟨_,(decide (a1 > 0)),(by first | rfl | (simp;done) | (simp [*];done)),H',⟨by have:=HK1.out;first | omega | exact Nat.le_refl _⟩,⟨by (with_reducible repeat (first | apply Kd.R_alloc | apply Kd.R_drewN | apply Kd.R_drew));exact HO_5.out⟩,⟨by repeat (first | (with_reducible first | exact HB.out | apply below_alloc | apply pw_below_drewN | apply below_drew1) | exact HB.out)⟩⟩
    ·rw [if_neg c6] at H;have c6b0 : decide (x6_1 < (l0.length : Int)) = false:=decide_eq_false c6;clear c6
     (first | rw [c6b0] | (simp only [i64_w,i32_w];rw [c6b0]) | skip)
     have H':=O H;clear H
     go_wp2
     go_meet
     case rel=>exact ⟨_,(false),(by first | rfl | (simp;done) | (simp [*];done)),H',⟨by have:=HK1.out;first | omega | exact Nat.le_refl _⟩,⟨by (with_reducible repeat (first | apply Kd.R_alloc | apply Kd.R_drewN | apply Kd.R_drew));exact HO_5.out⟩,⟨by repeat (first | (with_reducible first | exact HB.out | apply below_alloc | apply pw_below_drewN | apply below_drew1) | exact HB.out)⟩⟩
   case rest =>
    clear HC5;(try clear p2);(try clear c4);(try clear c6);(try clear c6b0);(try clear p2);obtain ⟨kq,x16_4,rfl,HA,HJ4,HO_5,HB⟩:=hcut
    cases kq with
    | zero=>exact absurd HA.out (by simp [spec_l2Copy.j1])
    | succ kj4 =>
     have H:=HA.out;clear HA;simp only [spec_l2Copy.j1] at H
     by_cases c7 : x16_4 = true
     ·subst c7
      have H1 : (if 0 ≤ x6_1 then (if x6_1 < (l0.length : Int) then ((spec_l2Copy.f kj4 ((rd_T69 l0 x6_1).f4) (wrap64 (a1 - 1))).bind fun t390=>((spec_l2Copy.f kj4 ((rd_T69 l0 x6_1).f5) (wrap64 (a1 - 1))).bind fun t393=>(if x5_1.length < 1759218604441 then (spec_l2Copy.l0 kj4 l0 a1 (x5_1 ++ [(⟨(rd_T69 l0 x6_1).f0,(rd_T69 l0 x6_1).f1,(rd_T69 l0 x6_1).f2,(rd_T69 l0 x6_1).f3,t390,t393⟩ : S69)]) (wrap64 (x6_1 + 1))) else (none)))) else (none)) else (none)) = some r:=by rw [if_pos rfl] at H;exact H
      clear H;have H:=H1;clear H1
      by_cases c8 : 0 ≤ x6_1
      ·rw [if_pos c8] at H;have c8b0 : decide (0 ≤ x6_1) = true:=decide_eq_true c8;clear c8
       by_cases c9 : x6_1 < (l0.length : Int)
       ·rw [if_pos c9] at H;have c9b0 : decide (x6_1 < (l0.length : Int)) = true:=decide_eq_true c9;clear c9;replace H:=Option.bind_eq_some_iff.mp H;obtain ⟨t390,A100,H⟩:=H;replace H : ((spec_l2Copy.f kj4 ((rd_T69 l0 x6_1).f5) (wrap64 (a1 - 1))).bind fun t393=>(if x5_1.length < 1759218604441 then (spec_l2Copy.l0 kj4 l0 a1 (x5_1 ++ [(⟨(rd_T69 l0 x6_1).f0,(rd_T69 l0 x6_1).f1,(rd_T69 l0 x6_1).f2,(rd_T69 l0 x6_1).f3,t390,t393⟩ : S69)]) (wrap64 (x6_1 + 1))) else (none))) = some r:=H;have A10:=O A100;clear A100;replace H:=Option.bind_eq_some_iff.mp H;obtain ⟨t393,A110,H⟩:=H;replace H : (if x5_1.length < 1759218604441 then (spec_l2Copy.l0 kj4 l0 a1 (x5_1 ++ [(⟨(rd_T69 l0 x6_1).f0,(rd_T69 l0 x6_1).f1,(rd_T69 l0 x6_1).f2,(rd_T69 l0 x6_1).f3,t390,t393⟩ : S69)]) (wrap64 (x6_1 + 1))) else (none)) = some r:=H;have A11:=O A110;clear A110
        by_cases c12 : x5_1.length < 1759218604441
        ·rw [if_pos c12] at H;have LMc12:=O c12;clear c12;obtain ⟨y396,hy396⟩ : ∃ y_ : List (S69),y_ = (x5_1 ++ [(⟨(rd_T69 l0 x6_1).f0,(rd_T69 l0 x6_1).f1,(rd_T69 l0 x6_1).f2,(rd_T69 l0 x6_1).f3,t390,t393⟩ : S69)]):=⟨_,rfl⟩
         replace H : (spec_l2Copy.l0 kj4 l0 a1 y396 (wrap64 (x6_1 + 1))) = some r:=by first | (rw [hy396];with_reducible exact H) | (have H2_:=(Option.bind_some _ _).symm.trans H;rw [hy396];with_reducible exact H2_) | (have H2_:=(Option.bind_some _ _).symm.trans H;with_reducible exact H2_) | with_reducible exact H | (rw [hy396];exact H) | exact H
         have Ny396:=O hy396;clear hy396;have H':=O H;clear H
         have p388 : 0 ≤ (x6_1 : Int):=of_decide_eq_true (by first | (with_reducible assumption) | assumption)
         have q388 : x6_1 < (l0.length : Int):=of_decide_eq_true (by first | (with_reducible assumption) | assumption)
         obtain ⟨ad388,A388_4,c388_4,A388_5,c388_5,e388,hx388_0,hx388_1,hx388_2,hx388_3,hx388_4,hx388_5,hl388_4,hi388_4,hl388_5,hi388_5⟩:=at_T69 HR0.out x6_1 p388 q388
         cases e388
         replace hx388_0:=(HB.out.cell (World.block_lt_of_cell? w _ hx388_0)).trans hx388_0;replace hx388_1:=(HB.out.cell (World.block_lt_of_cell? w _ hx388_1)).trans hx388_1;replace hx388_2:=(HB.out.cell (World.block_lt_of_cell? w _ hx388_2)).trans hx388_2;replace hx388_3:=(HB.out.cell (World.block_lt_of_cell? w _ hx388_3)).trans hx388_3;replace hx388_4:=(HB.out.cell (World.block_lt_of_cell? w _ hx388_4)).trans hx388_4;replace hx388_5:=(HB.out.cell (World.block_lt_of_cell? w _ hx388_5)).trans hx388_5;have HR388_4:=O hi388_4;have HC388_4:=O hl388_4;clear hi388_4 hl388_4;have HR388_5:=O hi388_5;have HC388_5:=O hl388_5;clear hi388_5 hl388_5;replace p388:=eq_true p388;replace q388:=eq_true q388
         go_wp2_with (first | ((with_reducible refine gate_dst (N:=7) rfl ?_);refine box_event ?hg (N:=7) ?hd (cs:=#[.int .i64 0,.int .i64 0,.int .i64 0,.int .i64 0,.slice none 0 0,.slice none 0 0]) (t:=69) ?hr ?_;(case hd=>rfl);(case hg=>rfl);(case hr=>first | (go_simp;done) | (go_simp;rfl));intro gb389 hg w13 hbox hb;have n0_:=O (Kd.R_below (Kd.R_elderB (q8_ HO_5) gb389 (Nat.le_of_eq hg.symm)) hb);have n1_:=O (below_step (q0_ HB) hb);have n2_:=O (hbox);have n3_:=O ((by rw [hg];exact (below_size (q0_ HB)) : w.heap.size ≤ gb389));have n4_:=O ((by rw [hg];exact (below_size (q0_ HB)) : w.heap.size ≤ gb389));clear HO_5 HB;have HO_5:=n0_;have HB:=n1_;have BK389:=n2_;have GW389:=n3_;have GE389:=n4_;clear n0_ n1_ n2_ n3_ n4_ hb hbox hg;obtain ⟨hcz14_0,hcz14_1,hcz14_2,hcz14_3,hcz14_4,hcz14_5,hfz14_0,hfz14_1,hfz14_2,hfz14_3,hfz14_4,hfz14_5⟩:=bz6_ BK389) | ((with_reducible refine gate_callee (f:=42) rfl ?_);refine goesM_ (some 27) Try.func42 #[.slice A388_4 ((rd_T69 l0 x6_1).f4).length c388_4,.int .i64 (wrap64 (a1 - 1))] ?_;(with_reducible refine (ih kj4 (by have:=HK1.out;have:=HJ4.out;omega) _ _ ((rd_T69 l0 x6_1).f4) (wrap64 (a1 - 1)) t390 _ ?side1 ?side2 A10.out).mono ?_);(case side1=>exact Kd.C_below HR388_4.out (q10_ HB GE389));(case side2=>exact HC388_4.out);rintro e w15 ⟨v391,rfl,ho0,hb⟩;refine ⟨_,rfl,?_⟩;have n0_:=O (Kd.R_elder' (by (with_reducible repeat (first | apply Kd.R_alloc | apply Kd.R_drewN | apply Kd.R_drew));exact (Kd.R_mono (Kd.R_far (p:=⟨gb389,5,none⟩) (Kd.R_far (p:=⟨gb389,4,none⟩) (Kd.R_far (p:=⟨gb389,3,none⟩) (Kd.R_far (p:=⟨gb389,2,none⟩) (Kd.R_far (p:=⟨gb389,1,none⟩) (Kd.R_far (p:=⟨gb389,0,none⟩) (Kd.R_mono HO_5.out (fun k_ hk=>(⟨hk,hk.2⟩ : _ ∧ k_ ≠ gb389))) (fun _ hk=>hk.2) (.int .i64 ((rd_T69 l0 x6_1).f0))) (fun _ hk=>hk.2) (.int .i64 ((rd_T69 l0 x6_1).f1))) (fun _ hk=>hk.2) (.int .i64 ((rd_T69 l0 x6_1).f2))) (fun _ hk=>hk.2) (.int .i64 ((rd_T69 l0 x6_1).f3))) (fun _ hk=>hk.2) (.slice A388_4 ((rd_T69 l0 x6_1).f4).length c388_4)) (fun _ hk=>hk.2) (.slice A388_5 ((rd_T69 l0 x6_1).f5).length c388_5)) (fun _ h_=>h_.1))) (Kd.R_base ho0) hb);have n1_:=O (Kd.R_lower (Kd.R_newB (Kd.R_new' ho0 (Kd.R_lt (by (with_reducible repeat (first | apply Kd.R_alloc | apply Kd.R_drewN | apply Kd.R_drew));exact (Kd.R_mono (Kd.R_far (p:=⟨gb389,5,none⟩) (Kd.R_far (p:=⟨gb389,4,none⟩) (Kd.R_far (p:=⟨gb389,3,none⟩) (Kd.R_far (p:=⟨gb389,2,none⟩) (Kd.R_far (p:=⟨gb389,1,none⟩) (Kd.R_far (p:=⟨gb389,0,none⟩) (Kd.R_mono HO_5.out (fun k_ hk=>(⟨hk,hk.2⟩ : _ ∧ k_ ≠ gb389))) (fun _ hk=>hk.2) (.int .i64 ((rd_T69 l0 x6_1).f0))) (fun _ hk=>hk.2) (.int .i64 ((rd_T69 l0 x6_1).f1))) (fun _ hk=>hk.2) (.int .i64 ((rd_T69 l0 x6_1).f2))) (fun _ hk=>hk.2) (.int .i64 ((rd_T69 l0 x6_1).f3))) (fun _ hk=>hk.2) (.slice A388_4 ((rd_T69 l0 x6_1).f4).length c388_4)) (fun _ hk=>hk.2) (.slice A388_5 ((rd_T69 l0 x6_1).f5).length c388_5)) (fun _ h_=>h_.1))))) (g:=gb389) (o:=.cells #[.int .i64 ((rd_T69 l0 x6_1).f0),.int .i64 ((rd_T69 l0 x6_1).f1),.int .i64 ((rd_T69 l0 x6_1).f2),.int .i64 ((rd_T69 l0 x6_1).f3),.slice A388_4 ((rd_T69 l0 x6_1).f4).length c388_4,.slice A388_5 ((rd_T69 l0 x6_1).f5).length c388_5] 69 (0,0)) (q9_ BK389)) (below_size (q10_ HB GE389)));have n2_:=O (blk_below (g:=gb389) (o:=.cells #[.int .i64 ((rd_T69 l0 x6_1).f0),.int .i64 ((rd_T69 l0 x6_1).f1),.int .i64 ((rd_T69 l0 x6_1).f2),.int .i64 ((rd_T69 l0 x6_1).f3),.slice A388_4 ((rd_T69 l0 x6_1).f4).length c388_4,.slice A388_5 ((rd_T69 l0 x6_1).f5).length c388_5] 69 (0,0)) (q9_ BK389) hb);have n3_:=O (below_step (q10_ HB GE389) hb);clear HO_5 BK389 HB;have HO_5:=n0_;have HO392:=n1_;have BK389:=n2_;have HB:=n3_;clear n0_ n1_ n2_ n3_;(try clear hb);(try clear hk);(try clear ho0);obtain ⟨Ao16,co16,eo16⟩:=Kd.R_slice HO392.out;subst eo16;obtain ⟨hcz17_0,hcz17_1,hcz17_2,hcz17_3,hcz17_4,hcz17_5,hfz17_0,hfz17_1,hfz17_2,hfz17_3,hfz17_4,hfz17_5⟩:=bz6_ BK389) | ((with_reducible refine gate_callee (f:=42) rfl ?_);refine goesM_ (some 33) Try.func42 #[.slice A388_5 ((rd_T69 l0 x6_1).f5).length c388_5,.int .i64 (wrap64 (a1 - 1))] ?_;(with_reducible refine (ih kj4 (by have:=HK1.out;have:=HJ4.out;omega) _ _ ((rd_T69 l0 x6_1).f5) (wrap64 (a1 - 1)) t393 _ ?side1 ?side2 A11.out).mono ?_);(case side1=>exact Kd.C_below HR388_5.out (q10_ HB GE389));(case side2=>exact HC388_5.out);rintro e w18 ⟨v394,rfl,ho0,hb⟩;refine ⟨_,rfl,?_⟩;have n0_:=O (Kd.R_elder' (by (with_reducible repeat (first | apply Kd.R_alloc | apply Kd.R_drewN | apply Kd.R_drew));exact (Kd.R_mono (Kd.R_far (p:=⟨gb389,4,none⟩) (Kd.R_mono HO_5.out (fun k_ hk=>(⟨hk,hk.1.2⟩ : _ ∧ k_ ≠ gb389))) (fun _ hk=>hk.2) (.slice Ao16 t390.length co16)) (fun _ h_=>h_.1))) (Kd.R_base ho0) hb);have n1_:=O (Kd.R_elder' (by (with_reducible repeat (first | apply Kd.R_alloc | apply Kd.R_drewN | apply Kd.R_drew));exact (Kd.R_mono (Kd.R_far (p:=⟨gb389,4,none⟩) (Kd.R_mono HO392.out (fun k_ hk=>(⟨hk,hk.2⟩ : _ ∧ k_ ≠ gb389))) (fun _ hk=>hk.2) (.slice Ao16 t390.length co16)) (fun _ h_=>h_.1))) (Kd.R_base ho0) hb);have n2_:=O (Kd.R_lower (Kd.R_newB (Kd.R_new' (Kd.R_new' ho0 (Kd.R_lt (by (with_reducible repeat (first | apply Kd.R_alloc | apply Kd.R_drewN | apply Kd.R_drew));exact (Kd.R_mono (Kd.R_far (p:=⟨gb389,4,none⟩) (Kd.R_mono HO_5.out (fun k_ hk=>(⟨hk,hk.1.2⟩ : _ ∧ k_ ≠ gb389))) (fun _ hk=>hk.2) (.slice Ao16 t390.length co16)) (fun _ h_=>h_.1))))) (Kd.R_lt (by (with_reducible repeat (first | apply Kd.R_alloc | apply Kd.R_drewN | apply Kd.R_drew));exact (Kd.R_mono (Kd.R_far (p:=⟨gb389,4,none⟩) (Kd.R_mono HO392.out (fun k_ hk=>(⟨hk,hk.2⟩ : _ ∧ k_ ≠ gb389))) (fun _ hk=>hk.2) (.slice Ao16 t390.length co16)) (fun _ h_=>h_.1))))) (g:=gb389) (o:=.cells #[.int .i64 ((rd_T69 l0 x6_1).f0),.int .i64 ((rd_T69 l0 x6_1).f1),.int .i64 ((rd_T69 l0 x6_1).f2),.int .i64 ((rd_T69 l0 x6_1).f3),.slice Ao16 t390.length co16,.slice A388_5 ((rd_T69 l0 x6_1).f5).length c388_5] 69 (0,0)) (by (with_reducible repeat (first | refine blk_drewN ?_ _ | refine blk_drew ?_ | refine blk_alloc ?_ _));apply bp6_4_;(with_reducible repeat (first | refine blk_drewN ?_ _ | refine blk_drew ?_ | refine blk_alloc ?_ _));exact BK389.out)) (below_size (q10_ HB GE389)));have n3_:=O (blk_below (g:=gb389) (o:=.cells #[.int .i64 ((rd_T69 l0 x6_1).f0),.int .i64 ((rd_T69 l0 x6_1).f1),.int .i64 ((rd_T69 l0 x6_1).f2),.int .i64 ((rd_T69 l0 x6_1).f3),.slice Ao16 t390.length co16,.slice A388_5 ((rd_T69 l0 x6_1).f5).length c388_5] 69 (0,0)) (by (with_reducible repeat (first | refine blk_drewN ?_ _ | refine blk_drew ?_ | refine blk_alloc ?_ _));apply bp6_4_;(with_reducible repeat (first | refine blk_drewN ?_ _ | refine blk_drew ?_ | refine blk_alloc ?_ _));exact BK389.out) hb);have n4_:=O (below_step (q10_ HB GE389) hb);clear HO_5 HO392 BK389 HB;have HO_5:=n0_;have HO392:=n1_;have HO395:=n2_;have BK389:=n3_;have HB:=n4_;clear n0_ n1_ n2_ n3_ n4_;(try clear hb);(try clear hk);(try clear ho0);obtain ⟨Ao19,co19,eo19⟩:=Kd.R_slice HO395.out;subst eo19;obtain ⟨hcz20_0,hcz20_1,hcz20_2,hcz20_3,hcz20_4,hcz20_5,hfz20_0,hfz20_1,hfz20_2,hfz20_3,hfz20_4,hfz20_5⟩:=bz6_ BK389) | ((with_reducible refine gate_store (t:=49) (p:=34) rfl ?_);refine store_event (t:=49) (p:=34) (v:=?vo_w21) (w1:=(w18.setCell ⟨gb389,5,none⟩ (.slice Ao19 t393.length co19))) ?hg ?ho ?hn ?hr ?_;(case ho=>rfl);(case hg=>rfl);(case hn=>rfl);(case hr=>first | (go_simp;done) | (go_simp;rfl));intro w21 hw;have n0_ : Aside0 (Kd.R k69 69 w21 w.heap.size (fun k_=>some k_ ≠ (.slice Ao16 t390.length co16 : Value).ownBlock ∧ some k_ ≠ (.slice Ao19 t393.length co19 : Value).ownBlock ∧ k_ ≠ gb389) u5 x5_1):=⟨(by rw [hw];exact (by (with_reducible repeat (first | apply Kd.R_alloc | apply Kd.R_drewN | apply Kd.R_drew));exact Kd.R_mono (Kd.R_far (p:=⟨gb389,5,none⟩) (Kd.R_mono HO_5.out (fun k_ hk=>(⟨hk,hk.1.1.2⟩ : _ ∧ k_ ≠ gb389))) (fun _ hk=>hk.2) (.slice Ao19 t393.length co19)) (fun _ hk=>⟨hk.1.1.2,⟨hk.1.2,hk.1.1.1.2⟩⟩)))⟩;have n1_ : Aside0 (Kd.R k69 69 w21 w.heap.size (fun k_=>some k_ ≠ (u5 : Value).ownBlock ∧ some k_ ≠ (.slice Ao19 t393.length co19 : Value).ownBlock ∧ k_ ≠ gb389) (.slice Ao16 t390.length co16) t390):=⟨(by rw [hw];exact (by (with_reducible repeat (first | apply Kd.R_alloc | apply Kd.R_drewN | apply Kd.R_drew));exact Kd.R_mono (Kd.R_far (p:=⟨gb389,5,none⟩) (Kd.R_mono HO392.out (fun k_ hk=>(⟨hk,hk.1.2⟩ : _ ∧ k_ ≠ gb389))) (fun _ hk=>hk.2) (.slice Ao19 t393.length co19)) (fun _ hk=>⟨hk.1.1.1.2,⟨hk.1.2,hk.1.1.2⟩⟩)))⟩;have n2_ : Aside0 (Kd.R k69 69 w21 w.heap.size (fun k_=>some k_ ≠ (u5 : Value).ownBlock ∧ some k_ ≠ (.slice Ao16 t390.length co16 : Value).ownBlock ∧ k_ ≠ gb389) (.slice Ao19 t393.length co19) t393):=⟨(by rw [hw];exact (by (with_reducible repeat (first | apply Kd.R_alloc | apply Kd.R_drewN | apply Kd.R_drew));exact Kd.R_mono (Kd.R_far (p:=⟨gb389,5,none⟩) (Kd.R_mono HO395.out (fun k_ hk=>(⟨hk,hk.2⟩ : _ ∧ k_ ≠ gb389))) (fun _ hk=>hk.2) (.slice Ao19 t393.length co19)) (fun _ hk=>⟨hk.1.1.1.2,⟨hk.1.1.2,hk.1.2⟩⟩)))⟩;have n3_ : Aside0 (w21.heap[gb389]? = some (.cells #[.int .i64 ((rd_T69 l0 x6_1).f0),.int .i64 ((rd_T69 l0 x6_1).f1),.int .i64 ((rd_T69 l0 x6_1).f2),.int .i64 ((rd_T69 l0 x6_1).f3),.slice Ao16 t390.length co16,.slice Ao19 t393.length co19] 69 (0,0))):=⟨(by rw [hw];exact (by (with_reducible repeat (first | refine blk_drewN ?_ _ | refine blk_drew ?_ | refine blk_alloc ?_ _));apply bp6_5_;(with_reducible repeat (first | refine blk_drewN ?_ _ | refine blk_drew ?_ | refine blk_alloc ?_ _));exact BK389.out))⟩;have n4_ : Aside0 (Below w.heap.size w w21):=⟨(by rw [hw];exact (q10_ HB GE389))⟩;clear hw HO_5 HO392 HO395 BK389 HB;have HO_5:=n0_;have HO392:=n1_;have HO395:=n2_;have BK389:=n3_;have HB:=n4_;clear n0_ n1_ n2_ n3_ n4_;obtain ⟨hcz22_0,hcz22_1,hcz22_2,hcz22_3,hcz22_4,hcz22_5,hfz22_0,hfz22_1,hfz22_2,hfz22_3,hfz22_4,hfz22_5⟩:=bz6_ BK389) | ((with_reducible refine gate_builtin (b:=.append) (xs:=#[.tmp 35,.tmp 37]) rfl ?_);at_builtin;refine Kd.R_append k69 (w0:=w) w.heap.size rfl (.tmp 35) (.tmp 37) 49 69 (.agg #[(.int .i64 0),(.int .i64 0),(.int .i64 0),(.int .i64 0),(.slice none 0 0),(.slice none 0 0)]) 80 rfl Try.underlying49 info69 rfl (by decide) (by omega) u5 x5_1 (⟨(rd_T69 l0 x6_1).f0,(rd_T69 l0 x6_1).f1,(rd_T69 l0 x6_1).f2,(rd_T69 l0 x6_1).f3,t390,t393⟩ : S69) [.int .i64 ((rd_T69 l0 x6_1).f0),.int .i64 ((rd_T69 l0 x6_1).f1),.int .i64 ((rd_T69 l0 x6_1).f2),.int .i64 ((rd_T69 l0 x6_1).f3),.slice Ao16 t390.length co16,.slice Ao19 t393.length co19] (fun k_=>k_ ≠ gb389) (fun k_=>((fun k_=>k_ ≠ gb389)) k_ ∧ some k_ ≠ (u5 : Value).ownBlock) rfl rfl ?aP (fun _ hk=>hk) ?aF ?aO ?aB ?aS ?aL ?_;(case aP=>exact k69_mkM _ _ _ (⟨(rd_T69 l0 x6_1).f0,(rd_T69 l0 x6_1).f1,(rd_T69 l0 x6_1).f2,(rd_T69 l0 x6_1).f3,t390,t393⟩ : S69) (Kd.R_mono (HO392.out) (fun k_ hk=>⟨hk.2.2,hk.1⟩)) (Kd.R_mono (HO395.out) (fun k_ hk=>⟨hk.2.2,hk.1⟩)));(case aB=>exact q10_ HB GE389);(case aF=>exact (fun k_ hk=>Kd.freshB (g:=gb389) (o:=.cells #[.int .i64 ((rd_T69 l0 x6_1).f0),.int .i64 ((rd_T69 l0 x6_1).f1),.int .i64 ((rd_T69 l0 x6_1).f2),.int .i64 ((rd_T69 l0 x6_1).f3),.slice Ao16 t390.length co16,.slice Ao19 t393.length co19] 69 (0,0)) (q6_ BK389) k_ hk));(case aO=>exact (by (with_reducible repeat (first | apply Kd.R_alloc | apply Kd.R_drewN | apply Kd.R_drew));exact Kd.R_mono HO_5.out (fun _ hk=>hk.2.2)));(case aS=>exact (below_size (q10_ HB GE389)));(case aL=>have:=LMc12.out;omega);intro v397 w23 ho hb hg hat;rw [← Ny396.out] at ho;have n0_:=O (blk_grown (g:=gb389) (o:=.cells #[.int .i64 ((rd_T69 l0 x6_1).f0),.int .i64 ((rd_T69 l0 x6_1).f1),.int .i64 ((rd_T69 l0 x6_1).f2),.int .i64 ((rd_T69 l0 x6_1).f3),.slice Ao16 t390.length co16,.slice Ao19 t393.length co19] 69 (0,0)) (q6_ BK389) hg (Kd.R_away HO_5.out (fun _ hk=>hk.2.2)));have n1_:=O (hb);have n2_:=O (ho);clear BK389 HB HO_5 HO392 HO395;have BK389:=n0_;have HB:=n1_;have HO398:=n2_;clear n0_ n1_ n2_ ho hb hg hat))
         go_roundg kj4
         case measure=>have:=HK1.out;have:=HJ4.out;omega
         case rel=>exact ⟨(y396),(wrap64 (x6_1 + 1)),(by first | rfl | (simp;done) | (simp [*];done)),H',⟨by have:=HK1.out;have:=HJ4.out;omega⟩,⟨by (with_reducible repeat (first | apply Kd.R_alloc | apply Kd.R_drewN | apply Kd.R_drew));exact Kd.R_mono HO398.out (fun _ hk=>trivial)⟩,⟨by repeat (first | (with_reducible first | exact HB.out | apply below_alloc | apply pw_below_drewN | apply below_drew1 | refine below_set ?_ GE389.out) | exact HB.out)⟩⟩
        ·rw [if_neg c12] at H
         exact absurd H (by simp)
       ·rw [if_neg c9] at H
        exact absurd H (by simp)
      ·rw [if_neg c8] at H
       exact absurd H (by simp)
     ·replace c7:=Bool.eq_false_iff.mpr c7;subst c7
      have H1 : (some x5_1) = some r:=by rw [if_neg (show ¬ (false = true) by decide)] at H;exact H
      clear H;have H:=H1;clear H1;obtain rfl:=Option.some.inj H
      go_wp2
      go_ret
      exact ⟨_,by first | rfl | (simp [errW_none,errW_some] <;> rfl) | (simp [*,errW_none,errW_some] <;> rfl),by (with_reducible repeat (first | apply Kd.R_alloc | apply Kd.R_drewN | apply Kd.R_drew));exact HO_5.out,by repeat (first | (with_reducible first | exact HB.out | apply below_alloc | apply pw_below_drewN | apply below_drew1) | exact HB.out)⟩
end Go.Proofs.Ytfbocgagfodgnaa.P

namespace Go.Proofs.Ytfbocgagfodgnaa.P
open Go.RowKit Go.Proofs.YtfbocgagfodgnaaW.PrintWords Go.Proofs.YtfbocgagfodgnaaW.PrintLast Go.Proofs.YtfbocgagfodgnaaW.PrintMore
attribute [local go_sem] max2_int min2_int max_two min_two max_three min_three max_four min_four
set_option linter.unusedVariables false
set_option linter.unusedSimpArgs false
def spec_l1If.f (a0 : Bool) : Option (Int):=if a0 = true then (some 1) else (some 0)
set_option maxHeartbeats 8000000 in
set_option maxRecDepth 100000 in
theorem spec_l1If.calls (a0 : Bool) (r : Int) (w : World) (h : spec_l1If.f a0 = some r) :
  Calls Try.prog 17 #[.bool a0] w fun e w'=>e = .returned (.int .i64 r) ∧ Drawn0 w w':=by
 have H : (if a0 = true then (some 1) else (some 0)) = some r:=h;clear h
 by_cases c2 : a0 = true
 ·subst c2
  have H1 : (some 1) = some r:=by rw [if_pos rfl] at H;exact H
  clear H;have H:=H1;clear H1;obtain rfl:=Option.some.inj H;go_enter Try.func17,Try.ntmps17
  go_wp2
  go_ret
  exact ⟨by first | rfl | (simp;done) | (simp [*];done),by repeat (first | exact Drawn0.refl _ | apply Drawn0.step)⟩
 ·replace c2:=Bool.eq_false_iff.mpr c2;subst c2
  have H1 : (some 0) = some r:=by rw [if_neg (show ¬ (false = true) by decide)] at H;exact H
  clear H;have H:=H1;clear H1;obtain rfl:=Option.some.inj H;go_enter Try.func17,Try.ntmps17
  go_wp2
  go_ret
  exact ⟨by first | rfl | (simp;done) | (simp [*];done),by repeat (first | exact Drawn0.refl _ | apply Drawn0.step)⟩
def spec_NumCut.f (a0 : Int) : Option (Int):=if a0 > 999 then (some 999) else (if a0 < (-999) then (some (-999)) else (some a0))
set_option maxHeartbeats 8000000 in
set_option maxRecDepth 100000 in
theorem spec_NumCut.calls (a0 : Int) (r : Int) (w : World) (h : spec_NumCut.f a0 = some r) :
  Calls Try.prog 57 #[.int .i64 a0] w fun e w'=>e = .returned (.int .i64 r) ∧ Drawn0 w w':=by
 have H : (if a0 > 999 then (some 999) else (if a0 < (-999) then (some (-999)) else (some a0))) = some r:=h;clear h
 by_cases c2 : a0 > 999
 ·rw [if_pos c2] at H;have c2b0 : decide (999 < a0) = true:=decide_eq_true c2;clear c2;obtain rfl:=Option.some.inj H;go_enter Try.func57,Try.ntmps57
  go_wp2
  go_ret
  exact ⟨by first | rfl | (simp;done) | (simp [*];done),by repeat (first | exact Drawn0.refl _ | apply Drawn0.step)⟩
 ·rw [if_neg c2] at H;have c2b0 : decide (999 < a0) = false:=decide_eq_false c2;clear c2
  by_cases c3 : a0 < (-999)
  ·rw [if_pos c3] at H;have c3b0 : decide (a0 < (-999)) = true:=decide_eq_true c3;clear c3;obtain rfl:=Option.some.inj H;go_enter Try.func57,Try.ntmps57
   go_wp2
   go_ret
   exact ⟨by first | rfl | (simp;done) | (simp [*];done),by repeat (first | exact Drawn0.refl _ | apply Drawn0.step)⟩
  ·rw [if_neg c3] at H;have c3b0 : decide (a0 < (-999)) = false:=decide_eq_false c3;clear c3;obtain rfl:=Option.some.inj H;go_enter Try.func57,Try.ntmps57
   go_wp2
   go_ret
   exact ⟨by first | rfl | (simp;done) | (simp [*];done),by repeat (first | exact Drawn0.refl _ | apply Drawn0.step)⟩
end Go.Proofs.Ytfbocgagfodgnaa.P

namespace Go.Proofs.Ytfbocgagfodgnaa.P
open Go.RowKit Go.Proofs.YtfbocgagfodgnaaW.PrintWords Go.Proofs.YtfbocgagfodgnaaW.PrintLast Go.Proofs.YtfbocgagfodgnaaW.PrintMore
open Option renaming bind_eq_some_iff → O
attribute [local go_sem] max2_int min2_int max_two min_two max_three min_three max_four min_four
set_option linter.unusedVariables false
set_option linter.unusedSimpArgs false
def spec_NumDo.j0 : Nat → Int → Int → Int → Bool → Option (Int × Bool)
 | 0,_,_,_,_=>none
 | k + 1,x0,x1,x2,x15=>if x15 = true then (some (0,false)) else (if x0 = 1 then ((spec_NumCut.f (wrap64 (x1 + x2))).bind fun t284=>(some (t284,true))) else (if x0 = 2 then ((spec_NumCut.f (wrap64 (x1 - x2))).bind fun t285=>(some (t285,true))) else (if x0 = 3 then ((spec_NumCut.f (wrap64 (x1 * x2))).bind fun t286=>(some (t286,true))) else (if x0 = 4 then ((spec_l1If.f (decide (x1 < x2))).bind fun t287=>(some (t287,true))) else (if x0 = 5 then ((spec_l1If.f (x1 == x2)).bind fun t288=>(some (t288,true))) else (some (0,false)))))))
def spec_NumDo.f (k : Nat) (a0 : Int) (a1 : Int) (a2 : Int) : Option (Int × Bool):=(spec_NumOk.f a1).bind fun t282=>(if t282 = true then ((spec_NumOk.f a2).bind fun t283=>(spec_NumDo.j0 k a0 a1 a2 (!t283))) else (spec_NumDo.j0 k a0 a1 a2 true))
set_option maxHeartbeats 8000000 in
set_option maxRecDepth 100000 in
theorem spec_NumDo.calls (k : Nat) (a0 : Int) (a1 : Int) (a2 : Int) (r1 : Int) (r2 : Bool) (w : World) (h : spec_NumDo.f k a0 a1 a2 = some (r1,r2)) :
  Calls Try.prog 54 #[.int .i64 a0,.int .i64 a1,.int .i64 a2] w fun e w'=>e = .returned (.tuple #[.int .i64 r1,.bool r2]) ∧ Drawn0 w w':=by
 have H : ((spec_NumOk.f a1).bind fun t282=>(if t282 = true then ((spec_NumOk.f a2).bind fun t283=>(spec_NumDo.j0 k a0 a1 a2 (!t283))) else (spec_NumDo.j0 k a0 a1 a2 true))) = some (r1,r2):=h;clear h;have HC4:=Aside0.mk H;clear H;go_enter Try.func54,Try.ntmps54
 go_upto_region 1 with (fail)
 go_cut [15] (fun v15 wc=>∃ (kq : Nat) (x15_3 : Bool),v15 = .bool x15_3 ∧ Aside0 (spec_NumDo.j0 kq a0 a1 a2 x15_3 = some (r1,r2)) ∧ Aside0 (kq ≤ k) ∧ Drawn0 w wc)
 case first =>
  have H:=HC4.out;clear HC4;replace H:=O.mp H;obtain ⟨t282,A50,H⟩:=H;replace H : (if t282 = true then ((spec_NumOk.f a2).bind fun t283=>(spec_NumDo.j0 k a0 a1 a2 (!t283))) else (spec_NumDo.j0 k a0 a1 a2 true)) = some (r1,r2):=H;have A5:=Aside0.mk A50;clear A50
  by_cases c6 : t282 = true
  ·subst c6
   have H1 : ((spec_NumOk.f a2).bind fun t283=>(spec_NumDo.j0 k a0 a1 a2 (!t283))) = some (r1,r2):=by rw [if_pos rfl] at H;exact H
   clear H;have H:=H1;clear H1;replace H:=O.mp H;obtain ⟨t283,A70,H⟩:=H;replace H : (spec_NumDo.j0 k a0 a1 a2 (!t283)) = some (r1,r2):=H;have A7:=Aside0.mk A70;clear A70;have H':=Aside0.mk H;clear H
   go_wp2_with (first | ((with_reducible refine gate_callee (f:=56) rfl ?_);refine goesM_ (some 9) Try.func56 #[.int .i64 a1] ?_;(with_reducible refine (spec_NumOk.calls a1 true _ A5.out).mono ?_);rintro e w' ⟨rfl,⟨nd,rfl⟩⟩;refine ⟨_,rfl,?_⟩) | (go_at_call 56;(with_reducible refine (spec_NumOk.calls a2 t283 _ A7.out).mono ?_);rintro e w' ⟨rfl,⟨nd,rfl⟩⟩))
   go_meet
   case rel=>exact ⟨_,(!t283),(by first | rfl | (simp;done) | (simp [*];done)),H',⟨by first | omega | exact Nat.le_refl _⟩,by repeat (first | exact Drawn0.refl _ | apply Drawn0.step)⟩
  ·replace c6:=Bool.eq_false_iff.mpr c6;subst c6
   have H1 : (spec_NumDo.j0 k a0 a1 a2 true) = some (r1,r2):=by rw [if_neg (show ¬ (false = true) by decide)] at H;exact H
   clear H;have H:=H1;clear H1;have H':=Aside0.mk H;clear H
   go_wp2_with (first | ((with_reducible refine gate_callee (f:=56) rfl ?_);refine goesM_ (some 9) Try.func56 #[.int .i64 a1] ?_;(with_reducible refine (spec_NumOk.calls a1 false _ A5.out).mono ?_);rintro e w' ⟨rfl,⟨nd,rfl⟩⟩;refine ⟨_,rfl,?_⟩))
   go_meet
   case rel=>exact ⟨_,(true),(by first | rfl | (simp;done) | (simp [*];done)),H',⟨by first | omega | exact Nat.le_refl _⟩,by repeat (first | exact Drawn0.refl _ | apply Drawn0.step)⟩
 case rest =>
  clear HC4;(try clear p2);(try clear c5);(try clear c6);obtain ⟨kq,x15_3,rfl,HA,HJ3,⟨mc3,rfl⟩⟩:=hcut
  cases kq with
  | zero=>exact absurd HA.out (by simp [spec_NumDo.j0])
  | succ kj3 =>
   have H:=HA.out;clear HA;simp only [spec_NumDo.j0] at H
   by_cases c8 : x15_3 = true
   ·subst c8
    have H1 : (some (0,false)) = some (r1,r2):=by rw [if_pos rfl] at H;exact H
    clear H;have H:=H1;clear H1;simp only [Option.some.injEq,Prod.mk.injEq] at H;obtain ⟨rfl,rfl⟩:=H
    go_wp2
    go_ret2
    exact ⟨by first | rfl | (simp;done) | (simp [*];done),by repeat (first | exact Drawn0.refl _ | apply Drawn0.step)⟩
   ·replace c8:=Bool.eq_false_iff.mpr c8;subst c8
    have H1 : (if a0 = 1 then ((spec_NumCut.f (wrap64 (a1 + a2))).bind fun t284=>(some (t284,true))) else (if a0 = 2 then ((spec_NumCut.f (wrap64 (a1 - a2))).bind fun t285=>(some (t285,true))) else (if a0 = 3 then ((spec_NumCut.f (wrap64 (a1 * a2))).bind fun t286=>(some (t286,true))) else (if a0 = 4 then ((spec_l1If.f (decide (a1 < a2))).bind fun t287=>(some (t287,true))) else (if a0 = 5 then ((spec_l1If.f (a1 == a2)).bind fun t288=>(some (t288,true))) else (some (0,false))))))) = some (r1,r2):=by rw [if_neg (show ¬ (false = true) by decide)] at H;exact H
    clear H;have H:=H1;clear H1
    by_cases c9 : a0 = 1
    ·rw [if_pos c9] at H;have c9b0 : (a0 == 1) = true:=beq_iff_eq.mpr c9;have c9b1 : (a0 != 1) = false:=bne_eq_false_iff_eq.mpr c9;clear c9;replace H:=O.mp H;obtain ⟨t284,A100,H⟩:=H;replace H : (some (t284,true)) = some (r1,r2):=H;have A10:=Aside0.mk A100;clear A100;simp only [Option.some.injEq,Prod.mk.injEq] at H;obtain ⟨rfl,rfl⟩:=H
     go_wp2_with (first | ((with_reducible refine gate_callee (f:=57) rfl ?_);refine goesM_ (some 22) Try.func57 #[.int .i64 (wrap64 (a1 + a2))] ?_;(with_reducible refine (spec_NumCut.calls (wrap64 (a1 + a2)) t284 _ A10.out).mono ?_);rintro e w' ⟨rfl,⟨nd,rfl⟩⟩;refine ⟨_,rfl,?_⟩))
     go_ret2
     exact ⟨by first | rfl | (simp;done) | (simp [*];done),by repeat (first | exact Drawn0.refl _ | apply Drawn0.step)⟩
    ·rw [if_neg c9] at H;have c9b0 : (a0 == 1) = false:=beq_eq_false_iff_ne.mpr c9;have c9b1 : (a0 != 1) = true:=bne_iff_ne.mpr c9
     by_cases c11 : a0 = 2
     ·rw [if_pos c11] at H;have c11b0 : (a0 == 2) = true:=beq_iff_eq.mpr c11;have c11b1 : (a0 != 2) = false:=bne_eq_false_iff_eq.mpr c11;clear c11;replace H:=O.mp H;obtain ⟨t285,A120,H⟩:=H;replace H : (some (t285,true)) = some (r1,r2):=H;have A12:=Aside0.mk A120;clear A120;simp only [Option.some.injEq,Prod.mk.injEq] at H;obtain ⟨rfl,rfl⟩:=H
      go_wp2_with (first | ((with_reducible refine gate_callee (f:=57) rfl ?_);refine goesM_ (some 28) Try.func57 #[.int .i64 (wrap64 (a1 - a2))] ?_;(with_reducible refine (spec_NumCut.calls (wrap64 (a1 - a2)) t285 _ A12.out).mono ?_);rintro e w' ⟨rfl,⟨nd,rfl⟩⟩;refine ⟨_,rfl,?_⟩))
      go_ret2
      exact ⟨by first | rfl | (simp;done) | (simp [*];done),by repeat (first | exact Drawn0.refl _ | apply Drawn0.step)⟩
     ·rw [if_neg c11] at H;have c11b0 : (a0 == 2) = false:=beq_eq_false_iff_ne.mpr c11;have c11b1 : (a0 != 2) = true:=bne_iff_ne.mpr c11
      by_cases c13 : a0 = 3
      ·rw [if_pos c13] at H;have c13b0 : (a0 == 3) = true:=beq_iff_eq.mpr c13;have c13b1 : (a0 != 3) = false:=bne_eq_false_iff_eq.mpr c13;clear c13;replace H:=O.mp H;obtain ⟨t286,A140,H⟩:=H;replace H : (some (t286,true)) = some (r1,r2):=H;have A14:=Aside0.mk A140;clear A140;simp only [Option.some.injEq,Prod.mk.injEq] at H;obtain ⟨rfl,rfl⟩:=H
       go_wp2_with (first | ((with_reducible refine gate_callee (f:=57) rfl ?_);refine goesM_ (some 34) Try.func57 #[.int .i64 (wrap64 (a1 * a2))] ?_;(with_reducible refine (spec_NumCut.calls (wrap64 (a1 * a2)) t286 _ A14.out).mono ?_);rintro e w' ⟨rfl,⟨nd,rfl⟩⟩;refine ⟨_,rfl,?_⟩))
       go_ret2
       exact ⟨by first | rfl | (simp;done) | (simp [*];done),by repeat (first | exact Drawn0.refl _ | apply Drawn0.step)⟩
      ·rw [if_neg c13] at H;have c13b0 : (a0 == 3) = false:=beq_eq_false_iff_ne.mpr c13;have c13b1 : (a0 != 3) = true:=bne_iff_ne.mpr c13
       by_cases c15 : a0 = 4
       ·rw [if_pos c15] at H;have c15b0 : (a0 == 4) = true:=beq_iff_eq.mpr c15;have c15b1 : (a0 != 4) = false:=bne_eq_false_iff_eq.mpr c15;clear c15;replace H:=O.mp H;obtain ⟨t287,A160,H⟩:=H;replace H : (some (t287,true)) = some (r1,r2):=H;have A16:=Aside0.mk A160;clear A160;simp only [Option.some.injEq,Prod.mk.injEq] at H;obtain ⟨rfl,rfl⟩:=H
        go_wp2_with (first | ((with_reducible refine gate_callee (f:=17) rfl ?_);refine goesM_ (some 40) Try.func17 #[.bool (decide (a1 < a2))] ?_;(with_reducible refine (spec_l1If.calls (decide (a1 < a2)) t287 _ A16.out).mono ?_);rintro e w' ⟨rfl,⟨nd,rfl⟩⟩;refine ⟨_,rfl,?_⟩))
        go_ret2
        exact ⟨by first | rfl | (simp;done) | (simp [*];done),by repeat (first | exact Drawn0.refl _ | apply Drawn0.step)⟩
       ·rw [if_neg c15] at H;have c15b0 : (a0 == 4) = false:=beq_eq_false_iff_ne.mpr c15;have c15b1 : (a0 != 4) = true:=bne_iff_ne.mpr c15
        by_cases c17 : a0 = 5
        ·rw [if_pos c17] at H;have c17b0 : (a0 == 5) = true:=beq_iff_eq.mpr c17;have c17b1 : (a0 != 5) = false:=bne_eq_false_iff_eq.mpr c17;clear c17;replace H:=O.mp H;obtain ⟨t288,A180,H⟩:=H;replace H : (some (t288,true)) = some (r1,r2):=H;have A18:=Aside0.mk A180;clear A180;simp only [Option.some.injEq,Prod.mk.injEq] at H;obtain ⟨rfl,rfl⟩:=H
         go_wp2_with (first | ((with_reducible refine gate_callee (f:=17) rfl ?_);refine goesM_ (some 46) Try.func17 #[.bool (a1 == a2)] ?_;(with_reducible refine (spec_l1If.calls (a1 == a2) t288 _ A18.out).mono ?_);rintro e w' ⟨rfl,⟨nd,rfl⟩⟩;refine ⟨_,rfl,?_⟩))
         go_ret2
         exact ⟨by first | rfl | (simp;done) | (simp [*];done),by repeat (first | exact Drawn0.refl _ | apply Drawn0.step)⟩
        ·rw [if_neg c17] at H;have c17b0 : (a0 == 5) = false:=beq_eq_false_iff_ne.mpr c17;have c17b1 : (a0 != 5) = true:=bne_iff_ne.mpr c17;simp only [Option.some.injEq,Prod.mk.injEq] at H;obtain ⟨rfl,rfl⟩:=H
         go_wp2
         go_ret2
         exact ⟨by first | rfl | (simp;done) | (simp [*];done),by repeat (first | exact Drawn0.refl _ | apply Drawn0.step)⟩
end Go.Proofs.Ytfbocgagfodgnaa.P

namespace Go.Proofs.Ytfbocgagfodgnaa.P
open Go.RowKit
theorem drop_rd (l : List S69) {i : Nat} (h : i < l.length) : l.drop i = rd_T69 l (i : Int) :: l.drop (i + 1):=by
  rw [List.drop_eq_getElem_cons h]
  unfold rd_T69
  rw [Int.toNat_natCast,List.getD_eq_getElem?_getD,List.getElem?_eq_getElem h]
  rfl
end Go.Proofs.Ytfbocgagfodgnaa.P

namespace Go.Proofs.Ytfbocgagfodgnaa.P
open Go.RowKit Go.Proofs.YtfbocgagfodgnaaW.PrintWords Go.Proofs.YtfbocgagfodgnaaW.PrintLast Go.Proofs.YtfbocgagfodgnaaW.PrintMore
open Go.Proofs.YtfbocgagfodgnaaW.PrintWords renaming Aside0.mk → O, KeepBut.trans → Z, Kd.N_mono → J
attribute [local go_sem] max2_int min2_int max_two min_two max_three min_three max_four min_four
set_option linter.unusedVariables false
set_option linter.unusedSimpArgs false
def spec_l2Some.l0 : Nat → List (S69) → Int → List Int → Int → Option ((List (S69)) × Int)
 | 0,_,_,_,_=>none
 | k + 1,x3,x4,x1000,x1001=>if x4 > 0 then ((some (([] : List (S69)) : List (S69))).bind fun y204=>(if y204.length + x3.length < 1759218604441 then ((some (y204 ++ x3 : List (S69))).bind fun y207=>((spec_l2Draw.f k x1000 x1001 3 (-1)).bind fun bt210=>(if y207.length < 1759218604441 then ((some (y207 ++ [(⟨bt210.1,bt210.2.1,bt210.2.2.1,bt210.2.2.2.1,bt210.2.2.2.2.1,bt210.2.2.2.2.2.1⟩ : S69)] : List (S69))).bind fun y221=>((spec_StmtsOk.f k y221).bind fun t224=>(if t224 = true then (spec_l2Some.l0 k y221 (wrap64 (x4 - 1)) x1000 bt210.2.2.2.2.2.2) else (spec_l2Some.l0 k x3 (wrap64 (x4 - 1)) x1000 bt210.2.2.2.2.2.2)))) else (none)))) else (none))) else (some (x3,x1001))
def spec_l2Some.f (k : Nat) (s0_0 : List Int) (s0_1 : Int) : Option ((List (S69)) × Int):=(spec_l11Rd_num.f k s0_0 s0_1 (([3,4,5,6,2,0] : List Int))).bind fun bt202=>(spec_l2Some.l0 k (([] : List (S69))) bt202.1 s0_0 bt202.2)
set_option maxHeartbeats 8000000 in
set_option maxRecDepth 100000 in
theorem spec_l2Some.calls (k : Nat) (g : Nat) (s0_0 : List Int) (s0_1 : Int) (r1 : List (S69)) (r2 : Int) (w0 w : World) (hI : IsS53 w0 w g s0_0 s0_1) (hB : Below w0.heap.size w0 w) (h : spec_l2Some.f k s0_0 s0_1 = some (r1,r2)) :
  Calls Try.prog 21 #[.pointer (some ⟨g,0,none⟩)] w fun e w'=>∃ v0_ : Value,e = .returned (v0_) ∧ Kd.N k69 69 w' w.heap.size (fun k_=>(w.heap.size ≤ k_)) v0_ r1 ∧ IsS53 w0 w' g s0_0 r2 ∧ Below w0.heap.size w0 w' ∧ KeepBut w w' g none:=by
 have HI0:=O hI;have HK:=O (KeepBut.refl w g none);have HL:=O hB.size;clear hI;have HW0:=O hB.size;have HB:=O hB;clear hB;have H : ((spec_l11Rd_num.f k s0_0 s0_1 (([3,4,5,6,2,0] : List Int))).bind fun bt202=>(spec_l2Some.l0 k (([] : List (S69))) bt202.1 s0_0 bt202.2)) = some (r1,r2):=h;clear h;obtain ⟨y196,hy196⟩ : ∃ y_ : List (S69),y_ = (([] : List (S69))):=⟨_,rfl⟩
 replace H : ((spec_l11Rd_num.f k s0_0 s0_1 (([3,4,5,6,2,0] : List Int))).bind fun bt202=>(spec_l2Some.l0 k y196 bt202.1 s0_0 bt202.2)) = some (r1,r2):=by first | (rw [hy196];with_reducible exact H) | (have H2_:=(Option.bind_some _ _).symm.trans H;rw [hy196];with_reducible exact H2_) | (have H2_:=(Option.bind_some _ _).symm.trans H;with_reducible exact H2_) | with_reducible exact H | (rw [hy196];exact H) | exact H
 have Ny196:=O hy196;clear hy196;obtain ⟨y199,hy199⟩ : ∃ y_ : List Int,y_ = (([3,4,5,6,2,0] : List Int)):=⟨_,rfl⟩
 replace H : ((spec_l11Rd_num.f k s0_0 s0_1 y199).bind fun bt202=>(spec_l2Some.l0 k y196 bt202.1 s0_0 bt202.2)) = some (r1,r2):=by first | (rw [hy199];with_reducible exact H) | (have H2_:=(Option.bind_some _ _).symm.trans H;rw [hy199];with_reducible exact H2_) | (have H2_:=(Option.bind_some _ _).symm.trans H;with_reducible exact H2_) | with_reducible exact H | (rw [hy199];exact H) | exact H
 have Ny199:=O hy199;clear hy199;replace H:=Option.bind_eq_some_iff.mp H;obtain ⟨⟨t202,t203⟩,A20,H⟩:=H;replace H : (spec_l2Some.l0 k y196 t202 s0_0 t203) = some (r1,r2):=H;have A2:=O A20;clear A20;have H':=O H;clear H;go_enter Try.func21,Try.ntmps21
 go_wp2_with (first | ((with_reducible refine gate_dst (N:=6) rfl ?_);refine Kd.N_lit k69 _ 69 ?hg (N':=6) ?hd (xs:=([] : List (S69))) (inner:=[]) (ok:=(fun k_=>(w.heap.size ≤ k_) ∧ k_ ≠ g)) (okp:=(fun k_=>(w.heap.size ≤ k_) ∧ k_ ≠ g)) ?hr ?hp (fun _ hk=>hk) ((show ∀ k_,w.heap.size ≤ k_ → (fun k_=>(w.heap.size ≤ k_) ∧ k_ ≠ g) k_ from fun k_ hk=>⟨(Nat.le_trans (keep_size (w:=w) (g:=g) (row:=none) (q3_ HK)) hk),IsS53.fresh (q1_ HI0) k_ hk⟩) _ (Nat.le_refl _)) (Below.refl _ _) (Nat.le_refl _) (by simp) ?_;(case hd=>rfl);(case hg=>rfl);(case hr=>first | (go_simp;done) | (go_simp;rfl));(case hp=>exact (Reps.none _ _));intro v197 w3 ho4 hb hg_ hnew_;clear hg_ hnew_;(first | rw [← Ny196.out] at ho4 | (simp only [Int.reduceToNat] at ho4;rw [← Ny196.out] at ho4));have n0_:=O (Kd.N_lower ho4 (keep_size (w:=w) (g:=g) (row:=none) (q3_ HK)));have n1_:=O (IsS53.below (q1_ HI0) hb);have n2_:=O (Z (q3_ HK) (KeepBut.of_below hb g none) (.inl rfl));have n3_:=O (below_step (q2_ HB HI0) hb);clear HI0 HK HB;have HO198:=n0_;have HI0:=n1_;have HK:=n2_;have HB:=n3_;clear n0_ n1_ n2_ n3_ hb ho4) | ((with_reducible refine gate_dst (N:=8) rfl ?_);refine Kd.R_lit (Kd.int .i64) _ 3 ?hg (N:=8) ?hd (xs:=([3,4,5,6,2,0] : List Int)) (inner:=[.int .i64 3,.int .i64 4,.int .i64 5,.int .i64 6,.int .i64 2,.int .i64 0]) (ok:=fun _=>True) (okp:=fun _=>True) ?hr ?hp (fun _ hk=>hk) trivial (Below.refl _ _) (Nat.le_refl _) (by simp) ?_;(case hd=>rfl);(case hg=>rfl);(case hr=>first | (go_simp;done) | (go_simp;rfl));(case hp=>exact (Reps.one (show Kd.M (Kd.int .i64) _ _ _ 3 [.int .i64 3] from rfl) (Reps.one (show Kd.M (Kd.int .i64) _ _ _ 4 [.int .i64 4] from rfl) (Reps.one (show Kd.M (Kd.int .i64) _ _ _ 5 [.int .i64 5] from rfl) (Reps.one (show Kd.M (Kd.int .i64) _ _ _ 6 [.int .i64 6] from rfl) (Reps.one (show Kd.M (Kd.int .i64) _ _ _ 2 [.int .i64 2] from rfl) (Reps.one (show Kd.M (Kd.int .i64) _ _ _ 0 [.int .i64 0] from rfl) (Reps.none _ _))))))));intro v200 w5 ho6 hb hg_ hnew_;clear hg_ hnew_;(first | rw [← Ny199.out] at ho6 | (simp only [Int.reduceToNat] at ho6;rw [← Ny199.out] at ho6));have n0_:=O (Kd.N_elder' (q11_ HO198) (Kd.R_base ho6) hb);have n1_:=O (Kd.R_lower (Kd.R_newM (M:=fun k_=>(w.heap.size ≤ k_)) ho6 (keep_size (w:=w) (g:=g) (row:=none) (q3_ HK)) (fun k_ h_=>h_)) (keep_size (w:=w) (g:=g) (row:=none) (q3_ HK)));have n2_:=O (IsS53.below (q1_ HI0) hb);have n3_:=O (Z (q3_ HK) (KeepBut.of_below hb g none) (.inl rfl));have n4_:=O (below_step (q2_ HB HI0) hb);clear HO198 HI0 HK HB;have HO198:=n0_;have HO201:=n1_;have HI0:=n2_;have HK:=n3_;have HB:=n4_;clear n0_ n1_ n2_ n3_ n4_ hb ho6;obtain ⟨Ao7,co7,eo7⟩:=Kd.R_slice HO201.out;subst eo7) | ((with_reducible refine gate_callee (f:=27) rfl ?_);refine goesM_ (some 9) Try.func27 #[.pointer (some ⟨g,0,none⟩),.slice Ao7 y199.length co7] ?_;(with_reducible refine (spec_l11Rd_num.calls k g s0_0 s0_1 _ _ y199 t202 t203 w0 _ ?side1 ?side2 ?side3 ?side4 ?side5 A2.out).mono ?_);(case side1=>exact q1_ HI0);(case side2=>exact q2_ HB HI0);(case side3=>repeat (first | exact (Kd.R_reads' HO201.out).2.2 | (with_reducible refine Kd.C_alloc ?_ _) | (with_reducible refine Kd.C_drewN ?_ _) | (with_reducible refine Kd.C_drew ?_)));(case side4=>exact (Kd.R_reads' HO201.out).2.1);(case side5=>exact far_slice (IsS53.own_ne HI0.out HO201.out (by decide)));rintro e w8 ⟨rfl,hi,hb,hk⟩;refine ⟨_,rfl,?_⟩;have n0_:=O (J (Kd.N_keep (J (ok:=fun k_=>((((w.heap.size ≤ k_)) ∧ k_ ≠ g) ∧ some k_ ≠ (.slice Ao7 y199.length co7 : Value).ownBlock)) (q11_ HO198) (fun k_ hk_=>(⟨hk_,hk_.1.2⟩ : _ ∧ k_ ≠ g))) hk (fun _ h=>h.2)) (fun _ h=>h.1));have n1_:=O (Kd.R_mono (Kd.R_keep (IsS53.apart (show IsS53 w0 _ g s0_0 s0_1 from by repeat (first | (with_reducible first | exact HI0.out | apply IsS53.alloc | apply IsS53.drewN | apply IsS53.drew | apply IsS53.set_1) | exact HI0.out)) (q8_ HO201) (by decide)) hk (fun _ h=>h.2)) (fun _ h=>h.1));have n2_:=O (Z (q3_ HK) hk (.inl rfl));have n3_:=O (hb);have n4_:=O (hi);clear HO198 HO201 HK HB HI0;have HO198:=n0_;have HO201:=n1_;have HK:=n2_;have HB:=n3_;have HI0:=n4_;clear n0_ n1_ n2_ n3_ n4_;(try clear hb);(try clear hk);(try clear hi)))
 go_loopg [3,4] k (fun kq v3 v4 w'=>∃ (x3_1 : List (S69)) (x4_1 : Int) (x1001_1 : Int),v4 = .int .i64 x4_1 ∧ Aside0 (spec_l2Some.l0 kq x3_1 x4_1 s0_0 x1001_1 = some (r1,r2)) ∧ Aside0 (kq ≤ k) ∧ Aside0 (Kd.N k69 69 w' w.heap.size (fun k_=>(w.heap.size ≤ k_) ∧ k_ ≠ g) v3 x3_1) ∧ Aside0 (IsS53 w0 w' g s0_0 x1001_1) ∧ Aside0 (KeepBut w w' g none) ∧ Aside0 (Below w0.heap.size w0 w'))
 case atStart=>exact ⟨(y196),(t202),(t203),(by first | rfl | (simp;done) | (simp [*];done)),H',⟨Nat.le_refl _⟩,⟨by (with_reducible repeat (first | apply Kd.N_alloc | apply Kd.N_drewN | apply Kd.N_drew));exact J HO198.out (fun _ hk=>⟨hk.1.1,hk.1.2⟩)⟩,⟨by repeat (first | (with_reducible first | exact HI0.out | apply IsS53.alloc | apply IsS53.drewN | apply IsS53.drew | apply IsS53.set_1) | exact HI0.out)⟩,⟨by repeat (first | (with_reducible first | exact HK.out | apply KeepBut.set_ | apply keep_drewN | apply keep_drew | apply keep_alloc) | exact HK.out)⟩,⟨by repeat (first | (with_reducible first | exact HB.out | apply below_alloc | apply pw_below_drewN | apply below_drew1 | refine below_set ?_ (IsS53.ge HI0.out)) | exact HB.out)⟩⟩
 case round =>
  clear H';(try clear c2);(try clear p2);obtain ⟨x3_1,x4_1,x1001_1,rfl,HA,HK1,HO_3,HI0,HK,HB⟩:=hrel
  cases gk with
  | zero=>exact absurd HA.out (by simp [spec_l2Some.l0])
  | succ k1 =>
   have H:=HA.out;clear HA;simp only [spec_l2Some.l0] at H
   by_cases c9 : x4_1 > 0
   ·rw [if_pos c9] at H;have c9b0 : decide (0 < x4_1) = true:=decide_eq_true c9;clear c9;obtain ⟨y204,hy204⟩ : ∃ y_ : List (S69),y_ = (([] : List (S69))):=⟨_,rfl⟩
    replace H : (if y204.length + x3_1.length < 1759218604441 then ((some (y204 ++ x3_1 : List (S69))).bind fun y207=>((spec_l2Draw.f k1 s0_0 x1001_1 3 (-1)).bind fun bt210=>(if y207.length < 1759218604441 then ((some (y207 ++ [(⟨bt210.1,bt210.2.1,bt210.2.2.1,bt210.2.2.2.1,bt210.2.2.2.2.1,bt210.2.2.2.2.2.1⟩ : S69)] : List (S69))).bind fun y221=>((spec_StmtsOk.f k1 y221).bind fun t224=>(if t224 = true then (spec_l2Some.l0 k1 y221 (wrap64 (x4_1 - 1)) s0_0 bt210.2.2.2.2.2.2) else (spec_l2Some.l0 k1 x3_1 (wrap64 (x4_1 - 1)) s0_0 bt210.2.2.2.2.2.2)))) else (none)))) else (none)) = some (r1,r2):=by first | (rw [hy204];with_reducible exact H) | (have H2_:=(Option.bind_some _ _).symm.trans H;rw [hy204];with_reducible exact H2_) | (have H2_:=(Option.bind_some _ _).symm.trans H;with_reducible exact H2_) | with_reducible exact H | (rw [hy204];exact H) | exact H
    have Ny204:=O hy204;clear hy204
    by_cases c10 : y204.length + x3_1.length < 1759218604441
    ·rw [if_pos c10] at H;have LMc10:=O c10;clear c10;obtain ⟨y207,hy207⟩ : ∃ y_ : List (S69),y_ = (y204 ++ x3_1):=⟨_,rfl⟩
     replace H : ((spec_l2Draw.f k1 s0_0 x1001_1 3 (-1)).bind fun bt210=>(if y207.length < 1759218604441 then ((some (y207 ++ [(⟨bt210.1,bt210.2.1,bt210.2.2.1,bt210.2.2.2.1,bt210.2.2.2.2.1,bt210.2.2.2.2.2.1⟩ : S69)] : List (S69))).bind fun y221=>((spec_StmtsOk.f k1 y221).bind fun t224=>(if t224 = true then (spec_l2Some.l0 k1 y221 (wrap64 (x4_1 - 1)) s0_0 bt210.2.2.2.2.2.2) else (spec_l2Some.l0 k1 x3_1 (wrap64 (x4_1 - 1)) s0_0 bt210.2.2.2.2.2.2)))) else (none))) = some (r1,r2):=by first | (rw [hy207];with_reducible exact H) | (have H2_:=(Option.bind_some _ _).symm.trans H;rw [hy207];with_reducible exact H2_) | (have H2_:=(Option.bind_some _ _).symm.trans H;with_reducible exact H2_) | with_reducible exact H | (rw [hy207];exact H) | exact H
     have Ny207:=O hy207;clear hy207;replace H:=Option.bind_eq_some_iff.mp H;obtain ⟨⟨t210,t211,t212,t213,t214,t217,t220⟩,A110,H⟩:=H;replace H : (if y207.length < 1759218604441 then ((some (y207 ++ [(⟨t210,t211,t212,t213,t214,t217⟩ : S69)] : List (S69))).bind fun y221=>((spec_StmtsOk.f k1 y221).bind fun t224=>(if t224 = true then (spec_l2Some.l0 k1 y221 (wrap64 (x4_1 - 1)) s0_0 t220) else (spec_l2Some.l0 k1 x3_1 (wrap64 (x4_1 - 1)) s0_0 t220)))) else (none)) = some (r1,r2):=H;have A11:=O A110;clear A110
     by_cases c12 : y207.length < 1759218604441
     ·rw [if_pos c12] at H;have LMc12:=O c12;clear c12;obtain ⟨y221,hy221⟩ : ∃ y_ : List (S69),y_ = (y207 ++ [(⟨t210,t211,t212,t213,t214,t217⟩ : S69)]):=⟨_,rfl⟩
      replace H : ((spec_StmtsOk.f k1 y221).bind fun t224=>(if t224 = true then (spec_l2Some.l0 k1 y221 (wrap64 (x4_1 - 1)) s0_0 t220) else (spec_l2Some.l0 k1 x3_1 (wrap64 (x4_1 - 1)) s0_0 t220))) = some (r1,r2):=by first | (rw [hy221];with_reducible exact H) | (have H2_:=(Option.bind_some _ _).symm.trans H;rw [hy221];with_reducible exact H2_) | (have H2_:=(Option.bind_some _ _).symm.trans H;with_reducible exact H2_) | with_reducible exact H | (rw [hy221];exact H) | exact H
      have Ny221:=O hy221;clear hy221;replace H:=Option.bind_eq_some_iff.mp H;obtain ⟨t224,A130,H⟩:=H;replace H : (if t224 = true then (spec_l2Some.l0 k1 y221 (wrap64 (x4_1 - 1)) s0_0 t220) else (spec_l2Some.l0 k1 x3_1 (wrap64 (x4_1 - 1)) s0_0 t220)) = some (r1,r2):=H;have A13:=O A130;clear A130
      by_cases c14 : t224 = true
      ·subst c14
       have H1 : (spec_l2Some.l0 k1 y221 (wrap64 (x4_1 - 1)) s0_0 t220) = some (r1,r2):=by rw [if_pos rfl] at H;exact H
       clear H;have H:=H1;clear H1;have H':=O H;clear H
       go_wp2_with (first | ((with_reducible refine gate_dst (N:=14) rfl ?_);refine Kd.N_lit k69 _ 69 ?hg (N':=14) ?hd (xs:=([] : List (S69))) (inner:=[]) (ok:=(fun k_=>(w.heap.size ≤ k_) ∧ some k_ ≠ (u3 : Value).ownBlock ∧ k_ ≠ g)) (okp:=(fun k_=>(w.heap.size ≤ k_) ∧ some k_ ≠ (u3 : Value).ownBlock ∧ k_ ≠ g)) ?hr ?hp (fun _ hk=>hk) ((show ∀ k_,wr.heap.size ≤ k_ → (fun k_=>(w.heap.size ≤ k_) ∧ some k_ ≠ (u3 : Value).ownBlock ∧ k_ ≠ g) k_ from fun k_ hk=>⟨(Nat.le_trans (keep_size (w:=w) (g:=g) (row:=none) (q3_ HK)) hk),Kd.fresh' (Kd.N_lt (q11_ HO_3)) k_ hk,IsS53.fresh (q1_ HI0) k_ hk⟩) _ (Nat.le_refl _)) (Below.refl _ _) (Nat.le_refl _) (by simp) ?_;(case hd=>rfl);(case hg=>rfl);(case hr=>first | (go_simp;done) | (go_simp;rfl));(case hp=>exact (Reps.none _ _));intro v205 w15 ho16 hb hg_ hnew_;clear hg_ hnew_;(first | rw [← Ny204.out] at ho16 | (simp only [Int.reduceToNat] at ho16;rw [← Ny204.out] at ho16));have n0_:=O (Kd.N_elder' (q11_ HO_3) (Kd.N_base ho16) hb);have n1_:=O (Kd.N_lower ho16 (keep_size (w:=w) (g:=g) (row:=none) (q3_ HK)));have n2_:=O (IsS53.below (q1_ HI0) hb);have n3_:=O (Z (q3_ HK) (KeepBut.of_below hb g none) (.inl rfl));have n4_:=O (below_step (q2_ HB HI0) hb);clear HO_3 HI0 HK HB;have HO_3:=n0_;have HO206:=n1_;have HI0:=n2_;have HK:=n3_;have HB:=n4_;clear n0_ n1_ n2_ n3_ n4_ hb ho16;obtain ⟨Ao18,co18,eo18⟩:=Kd.N_slice HO_3.out;subst eo18) | ((with_reducible refine gate_builtin (b:=.append) (xs:=#[.tmp 14,.tmp 15]) rfl ?_);at_builtin;refine Kd.N_append_rows k69 w.heap.size rfl (.tmp 14) (.tmp 15) 49 69 (.agg #[(.int .i64 0),(.int .i64 0),(.int .i64 0),(.int .i64 0),(.slice none 0 0),(.slice none 0 0)]) 80 rfl Try.underlying49 info69 rfl (by decide) (by omega) v205 y204 x3_1 _ _ _ (fun k_=>(w.heap.size ≤ k_) ∧ k_ ≠ g) (fun k_=>((fun k_=>(w.heap.size ≤ k_) ∧ k_ ≠ g)) k_ ∧ some k_ ≠ (v205 : Value).ownBlock) rfl rfl ?aO ?aR (fun _ hk=>hk) ?aF (Below.refl _ _) ?aS ?aL ?_;(case aR=>exact (by skip;exact Kd.N_F (J (ok':=(fun k_=>((fun k_=>(w.heap.size ≤ k_) ∧ k_ ≠ g)) k_ ∧ some k_ ≠ (v205 : Value).ownBlock)) (HO_3.out) (fun k_ hk=>⟨⟨hk.1.1,hk.1.2⟩,hk.2⟩))));(case aF=>exact (fun k_ hk=>⟨(Nat.le_trans (keep_size (w:=w) (g:=g) (row:=none) (q3_ HK)) hk),IsS53.fresh (q1_ HI0) k_ hk⟩));(case aO=>exact (by (with_reducible repeat (first | apply Kd.N_alloc | apply Kd.N_drewN | apply Kd.N_drew));exact J HO206.out (fun _ hk=>⟨hk.1,hk.2.2⟩)));(case aS=>exact (keep_size (w:=w) (g:=g) (row:=none) (q3_ HK)));(case aL=>have:=LMc10.out;omega);intro v208 w17 ho hb hg hat;rw [← Ny207.out] at ho;have n0_:=O (Kd.N_afterv (ok:=(fun k_=>(w.heap.size ≤ k_) ∧ k_ ≠ g)) (q11_ HO_3) hg hat);have n1_:=O (IsS53.grown (q1_ HI0) hg (IsS53.own_neN HI0.out HO206.out (by decide)));have n2_:=O (below_weaken (q2_ HB HI0) HL.out hb);have n3_:=O (Z (q3_ HK) (KeepBut.of_grown hg g) (Kd.N_base2 HO206.out));have n4_:=O (ho);clear HO_3 HI0 HB HK HO206;have HO_3:=n0_;have HI0:=n1_;have HB:=n2_;have HK:=n3_;have HO209:=n4_;clear n0_ n1_ n2_ n3_ n4_ ho hb hg hat) | ((with_reducible refine gate_callee (f:=39) rfl ?_);refine goesM_ (some 18) Try.func39 #[.pointer (some ⟨g,0,none⟩),.int .i64 3,.int .i64 (-1)] ?_;(with_reducible refine (spec_l2Draw.calls k1 g s0_0 x1001_1 3 (-1) t210 t211 t212 t213 t214 t217 t220 w0 _ ?side1 ?side2 A11.out).mono ?_);(case side1=>exact q1_ HI0);(case side2=>exact q2_ HB HI0);rintro e w19 ⟨v215,v218,rfl,ho0,ho1,hi,hb,hk⟩;refine ⟨_,rfl,?_⟩;have n0_:=O (J (Kd.N_told (Kd.N_told (Kd.N_oldK (J (ok:=fun k_=>((((w.heap.size ≤ k_)) ∧ k_ ≠ g) ∧ some k_ ≠ (v208 : Value).ownBlock)) (q11_ HO_3) (fun k_ hk_=>(⟨hk_,hk_.1.2⟩ : _ ∧ k_ ≠ g))) hk) (Kd.R_base ho0)) (Kd.R_base ho1)) (fun _ h_=>h_.1));have n1_:=O (J (Kd.N_told (Kd.N_told (Kd.N_oldK (J (ok:=fun k_=>(((w.heap.size ≤ k_)) ∧ k_ ≠ g)) (q11_ HO209) (fun k_ hk_=>(⟨hk_,hk_.2⟩ : _ ∧ k_ ≠ g))) hk) (Kd.R_base ho0)) (Kd.R_base ho1)) (fun _ h_=>h_.1));have n2_:=O (Kd.N_lower (J (ok':=fun k_=>(w.heap.size ≤ k_) ∧ some k_ ≠ (v218 : Value).ownBlock ∧ some k_ ≠ (.slice Ao18 x3_1.length co18 : Value).ownBlock ∧ some k_ ≠ (v208 : Value).ownBlock ∧ k_ ≠ g) (Kd.R_N (Kd.R_bound ho0)) (fun k_ hk_=>⟨(Nat.le_trans (keep_size (w:=w) (g:=g) (row:=none) (q3_ HK)) hk_.2.1),hk_.1,(Kd.fresh' (Kd.N_lt (q11_ HO_3)) k_ hk_.2.1),(Kd.fresh' (Kd.N_lt (q11_ HO209)) k_ hk_.2.1),(IsS53.fresh (q1_ HI0) k_ hk_.2.1)⟩)) (keep_size (w:=w) (g:=g) (row:=none) (q3_ HK)));have n3_:=O (Kd.N_lower (J (ok':=fun k_=>(w.heap.size ≤ k_) ∧ some k_ ≠ (v215 : Value).ownBlock ∧ some k_ ≠ (.slice Ao18 x3_1.length co18 : Value).ownBlock ∧ some k_ ≠ (v208 : Value).ownBlock ∧ k_ ≠ g) (Kd.R_N (Kd.R_bound ho1)) (fun k_ hk_=>⟨(Nat.le_trans (keep_size (w:=w) (g:=g) (row:=none) (q3_ HK)) hk_.2.1),hk_.1,(Kd.fresh' (Kd.N_lt (q11_ HO_3)) k_ hk_.2.1),(Kd.fresh' (Kd.N_lt (q11_ HO209)) k_ hk_.2.1),(IsS53.fresh (q1_ HI0) k_ hk_.2.1)⟩)) (keep_size (w:=w) (g:=g) (row:=none) (q3_ HK)));have n4_:=O (Z (q3_ HK) hk (.inl rfl));have n5_:=O (hb);have n6_:=O (hi);clear HO_3 HO209 HK HB HI0;have HO_3:=n0_;have HO209:=n1_;have HO216:=n2_;have HO219:=n3_;have HK:=n4_;have HB:=n5_;have HI0:=n6_;clear n0_ n1_ n2_ n3_ n4_ n5_ n6_;(try clear hb);(try clear hk);(try clear hi);(try clear ho0);(try clear ho1);obtain ⟨Ao21,co21,eo21⟩:=Kd.N_slice HO216.out;subst eo21;obtain ⟨Ao22,co22,eo22⟩:=Kd.N_slice HO219.out;subst eo22) | ((with_reducible refine gate_builtin (b:=.append) (xs:=#[.tmp 16,.tmp 19]) rfl ?_);at_builtin;refine Kd.N_append k69 w.heap.size rfl (.tmp 16) (.tmp 19) 49 69 (.agg #[(.int .i64 0),(.int .i64 0),(.int .i64 0),(.int .i64 0),(.slice none 0 0),(.slice none 0 0)]) 80 rfl Try.underlying49 info69 rfl (by decide) (by omega) v208 y207 (⟨t210,t211,t212,t213,t214,t217⟩ : S69) [.int .i64 t210,.int .i64 t211,.int .i64 t212,.int .i64 t213,.slice Ao21 t214.length co21,.slice Ao22 t217.length co22] (fun k_=>(w.heap.size ≤ k_) ∧ k_ ≠ g) (fun k_=>((fun k_=>(w.heap.size ≤ k_) ∧ k_ ≠ g)) k_ ∧ some k_ ≠ (v208 : Value).ownBlock) rfl rfl ?aP (fun _ hk=>hk) ?aF ?aO (Below.refl _ _) ?aS ?aL ?_;(case aP=>exact (k69_mkF _ _ (⟨t210,t211,t212,t213,t214,t217⟩ : S69) (Kd.N_reads' (J (ok':=(fun k_=>((fun k_=>(w.heap.size ≤ k_) ∧ k_ ≠ g)) k_ ∧ some k_ ≠ (v208 : Value).ownBlock)) (HO216.out) (fun k_ hk=>⟨⟨hk.1,hk.2.2.2.2⟩,hk.2.2.2.1⟩))).2.1 (Kd.N_F (J (ok':=(fun k_=>((fun k_=>(w.heap.size ≤ k_) ∧ k_ ≠ g)) k_ ∧ some k_ ≠ (v208 : Value).ownBlock)) (HO216.out) (fun k_ hk=>⟨⟨hk.1,hk.2.2.2.2⟩,hk.2.2.2.1⟩))) (Kd.N_reads' (J (ok':=(fun k_=>((fun k_=>(w.heap.size ≤ k_) ∧ k_ ≠ g)) k_ ∧ some k_ ≠ (v208 : Value).ownBlock)) (HO219.out) (fun k_ hk=>⟨⟨hk.1,hk.2.2.2.2⟩,hk.2.2.2.1⟩))).2.1 (Kd.N_F (J (ok':=(fun k_=>((fun k_=>(w.heap.size ≤ k_) ∧ k_ ≠ g)) k_ ∧ some k_ ≠ (v208 : Value).ownBlock)) (HO219.out) (fun k_ hk=>⟨⟨hk.1,hk.2.2.2.2⟩,hk.2.2.2.1⟩)))));(case aF=>exact (fun k_ hk=>⟨(Nat.le_trans (keep_size (w:=w) (g:=g) (row:=none) (q3_ HK)) hk),IsS53.fresh (q1_ HI0) k_ hk⟩));(case aO=>exact (by (with_reducible repeat (first | apply Kd.N_alloc | apply Kd.N_drewN | apply Kd.N_drew));exact J HO209.out (fun _ hk=>⟨hk.1.1.1,hk.1.1.2⟩)));(case aS=>exact (keep_size (w:=w) (g:=g) (row:=none) (q3_ HK)));(case aL=>have:=LMc12.out;omega);intro v222 w20 ho hb hg hat;rw [← Ny221.out] at ho;have n0_:=O (Kd.N_afterv (ok:=(fun k_=>(w.heap.size ≤ k_) ∧ some k_ ≠ (.slice Ao21 t214.length co21 : Value).ownBlock ∧ some k_ ≠ (.slice Ao22 t217.length co22 : Value).ownBlock ∧ k_ ≠ g)) (by (with_reducible repeat (first | apply Kd.N_alloc | apply Kd.N_drewN | apply Kd.N_drew));exact J HO_3.out (fun _ hk=>⟨⟨hk.1.1.1.1,⟨hk.1.2,⟨hk.2,hk.1.1.1.2⟩⟩⟩,hk.1.1.2⟩)) hg hat);have n1_:=O (IsS53.grown (q1_ HI0) hg (IsS53.own_neN HI0.out HO209.out (by decide)));have n2_:=O (below_weaken (q2_ HB HI0) HL.out hb);have n3_:=O (Z (q3_ HK) (KeepBut.of_grown hg g) (Kd.N_base2 HO209.out));have n4_:=O (ho);clear HO_3 HI0 HB HK HO209 HO216 HO219;have HO_3:=n0_;have HI0:=n1_;have HB:=n2_;have HK:=n3_;have HO223:=n4_;clear n0_ n1_ n2_ n3_ n4_ ho hb hg hat;obtain ⟨Ao23,co23,eo23⟩:=Kd.N_slice HO223.out;subst eo23) | ((with_reducible refine gate_callee (f:=40) rfl ?_);refine goesM_ (some 22) Try.func40 #[.slice Ao23 y221.length co23] ?_;(with_reducible refine (spec_StmtsOk.calls k1 _ _ y221 true _ ?side1 ?side2 A13.out).mono ?_);(case side1=>repeat (first | exact (Kd.N_reads' HO223.out).2.2 | (with_reducible refine Kd.C_alloc ?_ _) | (with_reducible refine Kd.C_drewN ?_ _) | (with_reducible refine Kd.C_drew ?_)));(case side2=>exact (Kd.N_reads' HO223.out).2.1);rintro e w24 ⟨rfl,hb⟩;refine ⟨_,rfl,?_⟩;have n0_:=O (Kd.N_below (q11_ HO_3) hb);have n1_:=O (Kd.N_below (q11_ HO223) hb);have n2_:=O (IsS53.below (q1_ HI0) hb);have n3_:=O (Z (q3_ HK) (KeepBut.of_below hb g none) (.inl rfl));have n4_:=O (below_step (q2_ HB HI0) hb);clear HO_3 HO223 HI0 HK HB;have HO_3:=n0_;have HO223:=n1_;have HI0:=n2_;have HK:=n3_;have HB:=n4_;clear n0_ n1_ n2_ n3_ n4_;(try clear hb);(try clear hk);(try clear hi)))
       go_roundg k1
       case measure=>have:=HK1.out;omega
       case rel=>exact ⟨(y221),(wrap64 (x4_1 - 1)),(t220),(by first | rfl | (simp;done) | (simp [*];done)),H',⟨by have:=HK1.out;omega⟩,⟨by (with_reducible repeat (first | apply Kd.N_alloc | apply Kd.N_drewN | apply Kd.N_drew));exact HO223.out⟩,⟨by repeat (first | (with_reducible first | exact HI0.out | apply IsS53.alloc | apply IsS53.drewN | apply IsS53.drew | apply IsS53.set_1) | exact HI0.out)⟩,⟨by repeat (first | (with_reducible first | exact HK.out | apply KeepBut.set_ | apply keep_drewN | apply keep_drew | apply keep_alloc) | exact HK.out)⟩,⟨by repeat (first | (with_reducible first | exact HB.out | apply below_alloc | apply pw_below_drewN | apply below_drew1 | refine below_set ?_ (IsS53.ge HI0.out)) | exact HB.out)⟩⟩
      ·replace c14:=Bool.eq_false_iff.mpr c14;subst c14
       have H1 : (spec_l2Some.l0 k1 x3_1 (wrap64 (x4_1 - 1)) s0_0 t220) = some (r1,r2):=by rw [if_neg (show ¬ (false = true) by decide)] at H;exact H
       clear H;have H:=H1;clear H1;have H':=O H;clear H
       go_wp2_with (first | ((with_reducible refine gate_dst (N:=14) rfl ?_);refine Kd.N_lit k69 _ 69 ?hg (N':=14) ?hd (xs:=([] : List (S69))) (inner:=[]) (ok:=(fun k_=>(w.heap.size ≤ k_) ∧ some k_ ≠ (u3 : Value).ownBlock ∧ k_ ≠ g)) (okp:=(fun k_=>(w.heap.size ≤ k_) ∧ some k_ ≠ (u3 : Value).ownBlock ∧ k_ ≠ g)) ?hr ?hp (fun _ hk=>hk) ((show ∀ k_,wr.heap.size ≤ k_ → (fun k_=>(w.heap.size ≤ k_) ∧ some k_ ≠ (u3 : Value).ownBlock ∧ k_ ≠ g) k_ from fun k_ hk=>⟨(Nat.le_trans (keep_size (w:=w) (g:=g) (row:=none) (q3_ HK)) hk),Kd.fresh' (Kd.N_lt (q11_ HO_3)) k_ hk,IsS53.fresh (q1_ HI0) k_ hk⟩) _ (Nat.le_refl _)) (Below.refl _ _) (Nat.le_refl _) (by simp) ?_;(case hd=>rfl);(case hg=>rfl);(case hr=>first | (go_simp;done) | (go_simp;rfl));(case hp=>exact (Reps.none _ _));intro v205 w25 ho26 hb hg_ hnew_;clear hg_ hnew_;(first | rw [← Ny204.out] at ho26 | (simp only [Int.reduceToNat] at ho26;rw [← Ny204.out] at ho26));have n0_:=O (Kd.N_elder' (q11_ HO_3) (Kd.N_base ho26) hb);have n1_:=O (Kd.N_lower ho26 (keep_size (w:=w) (g:=g) (row:=none) (q3_ HK)));have n2_:=O (IsS53.below (q1_ HI0) hb);have n3_:=O (Z (q3_ HK) (KeepBut.of_below hb g none) (.inl rfl));have n4_:=O (below_step (q2_ HB HI0) hb);clear HO_3 HI0 HK HB;have HO_3:=n0_;have HO206:=n1_;have HI0:=n2_;have HK:=n3_;have HB:=n4_;clear n0_ n1_ n2_ n3_ n4_ hb ho26;obtain ⟨Ao28,co28,eo28⟩:=Kd.N_slice HO_3.out;subst eo28) | ((with_reducible refine gate_builtin (b:=.append) (xs:=#[.tmp 14,.tmp 15]) rfl ?_);at_builtin;refine Kd.N_append_rows k69 w.heap.size rfl (.tmp 14) (.tmp 15) 49 69 (.agg #[(.int .i64 0),(.int .i64 0),(.int .i64 0),(.int .i64 0),(.slice none 0 0),(.slice none 0 0)]) 80 rfl Try.underlying49 info69 rfl (by decide) (by omega) v205 y204 x3_1 _ _ _ (fun k_=>(w.heap.size ≤ k_) ∧ k_ ≠ g) (fun k_=>((fun k_=>(w.heap.size ≤ k_) ∧ k_ ≠ g)) k_ ∧ some k_ ≠ (v205 : Value).ownBlock) rfl rfl ?aO ?aR (fun _ hk=>hk) ?aF (Below.refl _ _) ?aS ?aL ?_;(case aR=>exact (by skip;exact Kd.N_F (J (ok':=(fun k_=>((fun k_=>(w.heap.size ≤ k_) ∧ k_ ≠ g)) k_ ∧ some k_ ≠ (v205 : Value).ownBlock)) (HO_3.out) (fun k_ hk=>⟨⟨hk.1.1,hk.1.2⟩,hk.2⟩))));(case aF=>exact (fun k_ hk=>⟨(Nat.le_trans (keep_size (w:=w) (g:=g) (row:=none) (q3_ HK)) hk),IsS53.fresh (q1_ HI0) k_ hk⟩));(case aO=>exact (by (with_reducible repeat (first | apply Kd.N_alloc | apply Kd.N_drewN | apply Kd.N_drew));exact J HO206.out (fun _ hk=>⟨hk.1,hk.2.2⟩)));(case aS=>exact (keep_size (w:=w) (g:=g) (row:=none) (q3_ HK)));(case aL=>have:=LMc10.out;omega);intro v208 w27 ho hb hg hat;rw [← Ny207.out] at ho;have n0_:=O (Kd.N_afterv (ok:=(fun k_=>(w.heap.size ≤ k_) ∧ k_ ≠ g)) (q11_ HO_3) hg hat);have n1_:=O (IsS53.grown (q1_ HI0) hg (IsS53.own_neN HI0.out HO206.out (by decide)));have n2_:=O (below_weaken (q2_ HB HI0) HL.out hb);have n3_:=O (Z (q3_ HK) (KeepBut.of_grown hg g) (Kd.N_base2 HO206.out));have n4_:=O (ho);clear HO_3 HI0 HB HK HO206;have HO_3:=n0_;have HI0:=n1_;have HB:=n2_;have HK:=n3_;have HO209:=n4_;clear n0_ n1_ n2_ n3_ n4_ ho hb hg hat) | ((with_reducible refine gate_callee (f:=39) rfl ?_);refine goesM_ (some 18) Try.func39 #[.pointer (some ⟨g,0,none⟩),.int .i64 3,.int .i64 (-1)] ?_;(with_reducible refine (spec_l2Draw.calls k1 g s0_0 x1001_1 3 (-1) t210 t211 t212 t213 t214 t217 t220 w0 _ ?side1 ?side2 A11.out).mono ?_);(case side1=>exact q1_ HI0);(case side2=>exact q2_ HB HI0);rintro e w29 ⟨v215,v218,rfl,ho0,ho1,hi,hb,hk⟩;refine ⟨_,rfl,?_⟩;have n0_:=O (J (Kd.N_told (Kd.N_told (Kd.N_oldK (J (ok:=fun k_=>((((w.heap.size ≤ k_)) ∧ k_ ≠ g) ∧ some k_ ≠ (v208 : Value).ownBlock)) (q11_ HO_3) (fun k_ hk_=>(⟨hk_,hk_.1.2⟩ : _ ∧ k_ ≠ g))) hk) (Kd.R_base ho0)) (Kd.R_base ho1)) (fun _ h_=>h_.1));have n1_:=O (J (Kd.N_told (Kd.N_told (Kd.N_oldK (J (ok:=fun k_=>(((w.heap.size ≤ k_)) ∧ k_ ≠ g)) (q11_ HO209) (fun k_ hk_=>(⟨hk_,hk_.2⟩ : _ ∧ k_ ≠ g))) hk) (Kd.R_base ho0)) (Kd.R_base ho1)) (fun _ h_=>h_.1));have n2_:=O (Kd.N_lower (J (ok':=fun k_=>(w.heap.size ≤ k_) ∧ some k_ ≠ (v218 : Value).ownBlock ∧ some k_ ≠ (.slice Ao28 x3_1.length co28 : Value).ownBlock ∧ some k_ ≠ (v208 : Value).ownBlock ∧ k_ ≠ g) (Kd.R_N (Kd.R_bound ho0)) (fun k_ hk_=>⟨(Nat.le_trans (keep_size (w:=w) (g:=g) (row:=none) (q3_ HK)) hk_.2.1),hk_.1,(Kd.fresh' (Kd.N_lt (q11_ HO_3)) k_ hk_.2.1),(Kd.fresh' (Kd.N_lt (q11_ HO209)) k_ hk_.2.1),(IsS53.fresh (q1_ HI0) k_ hk_.2.1)⟩)) (keep_size (w:=w) (g:=g) (row:=none) (q3_ HK)));have n3_:=O (Kd.N_lower (J (ok':=fun k_=>(w.heap.size ≤ k_) ∧ some k_ ≠ (v215 : Value).ownBlock ∧ some k_ ≠ (.slice Ao28 x3_1.length co28 : Value).ownBlock ∧ some k_ ≠ (v208 : Value).ownBlock ∧ k_ ≠ g) (Kd.R_N (Kd.R_bound ho1)) (fun k_ hk_=>⟨(Nat.le_trans (keep_size (w:=w) (g:=g) (row:=none) (q3_ HK)) hk_.2.1),hk_.1,(Kd.fresh' (Kd.N_lt (q11_ HO_3)) k_ hk_.2.1),(Kd.fresh' (Kd.N_lt (q11_ HO209)) k_ hk_.2.1),(IsS53.fresh (q1_ HI0) k_ hk_.2.1)⟩)) (keep_size (w:=w) (g:=g) (row:=none) (q3_ HK)));have n4_:=O (Z (q3_ HK) hk (.inl rfl));have n5_:=O (hb);have n6_:=O (hi);clear HO_3 HO209 HK HB HI0;have HO_3:=n0_;have HO209:=n1_;have HO216:=n2_;have HO219:=n3_;have HK:=n4_;have HB:=n5_;have HI0:=n6_;clear n0_ n1_ n2_ n3_ n4_ n5_ n6_;(try clear hb);(try clear hk);(try clear hi);(try clear ho0);(try clear ho1);obtain ⟨Ao31,co31,eo31⟩:=Kd.N_slice HO216.out;subst eo31;obtain ⟨Ao32,co32,eo32⟩:=Kd.N_slice HO219.out;subst eo32) | ((with_reducible refine gate_builtin (b:=.append) (xs:=#[.tmp 16,.tmp 19]) rfl ?_);at_builtin;refine Kd.N_append k69 w.heap.size rfl (.tmp 16) (.tmp 19) 49 69 (.agg #[(.int .i64 0),(.int .i64 0),(.int .i64 0),(.int .i64 0),(.slice none 0 0),(.slice none 0 0)]) 80 rfl Try.underlying49 info69 rfl (by decide) (by omega) v208 y207 (⟨t210,t211,t212,t213,t214,t217⟩ : S69) [.int .i64 t210,.int .i64 t211,.int .i64 t212,.int .i64 t213,.slice Ao31 t214.length co31,.slice Ao32 t217.length co32] (fun k_=>(w.heap.size ≤ k_) ∧ k_ ≠ g) (fun k_=>((fun k_=>(w.heap.size ≤ k_) ∧ k_ ≠ g)) k_ ∧ some k_ ≠ (v208 : Value).ownBlock) rfl rfl ?aP (fun _ hk=>hk) ?aF ?aO (Below.refl _ _) ?aS ?aL ?_;(case aP=>exact (k69_mkF _ _ (⟨t210,t211,t212,t213,t214,t217⟩ : S69) (Kd.N_reads' (J (ok':=(fun k_=>((fun k_=>(w.heap.size ≤ k_) ∧ k_ ≠ g)) k_ ∧ some k_ ≠ (v208 : Value).ownBlock)) (HO216.out) (fun k_ hk=>⟨⟨hk.1,hk.2.2.2.2⟩,hk.2.2.2.1⟩))).2.1 (Kd.N_F (J (ok':=(fun k_=>((fun k_=>(w.heap.size ≤ k_) ∧ k_ ≠ g)) k_ ∧ some k_ ≠ (v208 : Value).ownBlock)) (HO216.out) (fun k_ hk=>⟨⟨hk.1,hk.2.2.2.2⟩,hk.2.2.2.1⟩))) (Kd.N_reads' (J (ok':=(fun k_=>((fun k_=>(w.heap.size ≤ k_) ∧ k_ ≠ g)) k_ ∧ some k_ ≠ (v208 : Value).ownBlock)) (HO219.out) (fun k_ hk=>⟨⟨hk.1,hk.2.2.2.2⟩,hk.2.2.2.1⟩))).2.1 (Kd.N_F (J (ok':=(fun k_=>((fun k_=>(w.heap.size ≤ k_) ∧ k_ ≠ g)) k_ ∧ some k_ ≠ (v208 : Value).ownBlock)) (HO219.out) (fun k_ hk=>⟨⟨hk.1,hk.2.2.2.2⟩,hk.2.2.2.1⟩)))));(case aF=>exact (fun k_ hk=>⟨(Nat.le_trans (keep_size (w:=w) (g:=g) (row:=none) (q3_ HK)) hk),IsS53.fresh (q1_ HI0) k_ hk⟩));(case aO=>exact (by (with_reducible repeat (first | apply Kd.N_alloc | apply Kd.N_drewN | apply Kd.N_drew));exact J HO209.out (fun _ hk=>⟨hk.1.1.1,hk.1.1.2⟩)));(case aS=>exact (keep_size (w:=w) (g:=g) (row:=none) (q3_ HK)));(case aL=>have:=LMc12.out;omega);intro v222 w30 ho hb hg hat;rw [← Ny221.out] at ho;have n0_:=O (Kd.N_afterv (ok:=(fun k_=>(w.heap.size ≤ k_) ∧ some k_ ≠ (.slice Ao31 t214.length co31 : Value).ownBlock ∧ some k_ ≠ (.slice Ao32 t217.length co32 : Value).ownBlock ∧ k_ ≠ g)) (by (with_reducible repeat (first | apply Kd.N_alloc | apply Kd.N_drewN | apply Kd.N_drew));exact J HO_3.out (fun _ hk=>⟨⟨hk.1.1.1.1,⟨hk.1.2,⟨hk.2,hk.1.1.1.2⟩⟩⟩,hk.1.1.2⟩)) hg hat);have n1_:=O (IsS53.grown (q1_ HI0) hg (IsS53.own_neN HI0.out HO209.out (by decide)));have n2_:=O (below_weaken (q2_ HB HI0) HL.out hb);have n3_:=O (Z (q3_ HK) (KeepBut.of_grown hg g) (Kd.N_base2 HO209.out));have n4_:=O (ho);clear HO_3 HI0 HB HK HO209 HO216 HO219;have HO_3:=n0_;have HI0:=n1_;have HB:=n2_;have HK:=n3_;have HO223:=n4_;clear n0_ n1_ n2_ n3_ n4_ ho hb hg hat;obtain ⟨Ao33,co33,eo33⟩:=Kd.N_slice HO223.out;subst eo33) | ((with_reducible refine gate_callee (f:=40) rfl ?_);refine goesM_ (some 22) Try.func40 #[.slice Ao33 y221.length co33] ?_;(with_reducible refine (spec_StmtsOk.calls k1 _ _ y221 false _ ?side1 ?side2 A13.out).mono ?_);(case side1=>repeat (first | exact (Kd.N_reads' HO223.out).2.2 | (with_reducible refine Kd.C_alloc ?_ _) | (with_reducible refine Kd.C_drewN ?_ _) | (with_reducible refine Kd.C_drew ?_)));(case side2=>exact (Kd.N_reads' HO223.out).2.1);rintro e w34 ⟨rfl,hb⟩;refine ⟨_,rfl,?_⟩;have n0_:=O (Kd.N_below (q11_ HO_3) hb);have n1_:=O (Kd.N_below (q11_ HO223) hb);have n2_:=O (IsS53.below (q1_ HI0) hb);have n3_:=O (Z (q3_ HK) (KeepBut.of_below hb g none) (.inl rfl));have n4_:=O (below_step (q2_ HB HI0) hb);clear HO_3 HO223 HI0 HK HB;have HO_3:=n0_;have HO223:=n1_;have HI0:=n2_;have HK:=n3_;have HB:=n4_;clear n0_ n1_ n2_ n3_ n4_;(try clear hb);(try clear hk);(try clear hi)))
       go_roundg k1
       case measure=>have:=HK1.out;omega
       case rel=>exact ⟨(x3_1),(wrap64 (x4_1 - 1)),(t220),(by first | rfl | (simp;done) | (simp [*];done)),H',⟨by have:=HK1.out;omega⟩,⟨by (with_reducible repeat (first | apply Kd.N_alloc | apply Kd.N_drewN | apply Kd.N_drew));exact J HO_3.out (fun _ hk=>⟨hk.1.1,hk.1.2.2.2⟩)⟩,⟨by repeat (first | (with_reducible first | exact HI0.out | apply IsS53.alloc | apply IsS53.drewN | apply IsS53.drew | apply IsS53.set_1) | exact HI0.out)⟩,⟨by repeat (first | (with_reducible first | exact HK.out | apply KeepBut.set_ | apply keep_drewN | apply keep_drew | apply keep_alloc) | exact HK.out)⟩,⟨by repeat (first | (with_reducible first | exact HB.out | apply below_alloc | apply pw_below_drewN | apply below_drew1 | refine below_set ?_ (IsS53.ge HI0.out)) | exact HB.out)⟩⟩
     ·rw [if_neg c12] at H
      exact absurd H (by simp)
    ·rw [if_neg c10] at H
     exact absurd H (by simp)
   ·rw [if_neg c9] at H;have c9b0 : decide (0 < x4_1) = false:=decide_eq_false c9;clear c9;simp only [Option.some.injEq,Prod.mk.injEq] at H;obtain ⟨rfl,rfl⟩:=H
    go_wp2
    go_ret
    exact ⟨_,by first | rfl | (simp [errW_none,errW_some] <;> rfl) | (simp [*,errW_none,errW_some] <;> rfl),by (with_reducible repeat (first | apply Kd.N_alloc | apply Kd.N_drewN | apply Kd.N_drew));exact J HO_3.out (fun _ hk=>hk.1),by repeat (first | (with_reducible first | exact HI0.out | apply IsS53.alloc | apply IsS53.drewN | apply IsS53.drew | apply IsS53.set_1) | exact HI0.out),by repeat (first | (with_reducible first | exact HB.out | apply below_alloc | apply pw_below_drewN | apply below_drew1 | refine below_set ?_ (IsS53.ge HI0.out)) | exact HB.out),by repeat (first | (with_reducible first | exact HK.out | apply KeepBut.set_ | apply keep_drewN | apply keep_drew | apply keep_alloc) | exact HK.out)⟩
end Go.Proofs.Ytfbocgagfodgnaa.P

namespace Go.Proofs.Ytfbocgagfodgnaa.P
open Go.RowKit Go.Proofs.YtfbocgagfodgnaaW.PrintWords Go.Proofs.YtfbocgagfodgnaaW.PrintLast Go.Proofs.YtfbocgagfodgnaaW.PrintMore
open Go.Proofs.YtfbocgagfodgnaaW.PrintWords renaming Aside0.mk → O
attribute [local go_sem] max2_int min2_int max_two min_two max_three min_three max_four min_four
set_option linter.unusedVariables false
set_option linter.unusedSimpArgs false
def spec_l2Prog.l0 : Nat → List (List (S69)) → Int → List Int → Int → Option ((List (List (S69))) × Int)
 | 0,_,_,_,_=>none
 | k + 1,x3,x4,x1000,x1001=>if x4 > 0 then ((spec_l2Some.f k x1000 x1001).bind fun bt230=>(if x3.length < 5864062014805 then (spec_l2Prog.l0 k (x3 ++ [bt230.1]) (wrap64 (x4 - 1)) x1000 bt230.2) else (none))) else (some (x3,x1001))
def spec_l2Prog.f (k : Nat) (s0_0 : List Int) (s0_1 : Int) : Option ((List (List (S69))) × Int):=(spec_l11Rd_pick.f k s0_0 s0_1 3).bind fun bt228=>(spec_l2Prog.l0 k (([] : List (List (S69)))) (wrap64 (1 + bt228.1)) s0_0 bt228.2)
set_option maxHeartbeats 8000000 in
set_option maxRecDepth 100000 in
theorem spec_l2Prog.calls (k : Nat) (g : Nat) (s0_0 : List Int) (s0_1 : Int) (r1 : List (List (S69))) (r2 : Int) (w0 w : World) (hI : IsS53 w0 w g s0_0 s0_1) (hB : Below w0.heap.size w0 w) (h : spec_l2Prog.f k s0_0 s0_1 = some (r1,r2)) :
  Calls Try.prog 13 #[.pointer (some ⟨g,0,none⟩)] w fun e w'=>∃ v0_ : Value,e = .returned (v0_) ∧ Kd.N (Kd.slice 69 k69) 49 w' w.heap.size (fun k_=>(w.heap.size ≤ k_)) v0_ r1 ∧ IsS53 w0 w' g s0_0 r2 ∧ Below w0.heap.size w0 w' ∧ KeepBut w w' g none:=by
 have HI0:=O hI;have HK:=O (KeepBut.refl w g none);have HL:=O hB.size;clear hI;have HW0:=O hB.size;have HB:=O hB;clear hB;have H : ((spec_l11Rd_pick.f k s0_0 s0_1 3).bind fun bt228=>(spec_l2Prog.l0 k (([] : List (List (S69)))) (wrap64 (1 + bt228.1)) s0_0 bt228.2)) = some (r1,r2):=h;clear h;obtain ⟨y225,hy225⟩ : ∃ y_ : List (List (S69)),y_ = (([] : List (List (S69)))):=⟨_,rfl⟩
 replace H : ((spec_l11Rd_pick.f k s0_0 s0_1 3).bind fun bt228=>(spec_l2Prog.l0 k y225 (wrap64 (1 + bt228.1)) s0_0 bt228.2)) = some (r1,r2):=by first | (rw [hy225];with_reducible exact H) | (have H2_:=(Option.bind_some _ _).symm.trans H;rw [hy225];with_reducible exact H2_) | (have H2_:=(Option.bind_some _ _).symm.trans H;with_reducible exact H2_) | with_reducible exact H | (rw [hy225];exact H) | exact H
 have Ny225:=O hy225;clear hy225;replace H:=Option.bind_eq_some_iff.mp H;obtain ⟨⟨t228,t229⟩,A20,H⟩:=H;replace H : (spec_l2Prog.l0 k y225 (wrap64 (1 + t228)) s0_0 t229) = some (r1,r2):=H;have A2:=O A20;clear A20;have H':=O H;clear H;go_enter Try.func13,Try.ntmps13
 go_wp2_with (first | ((with_reducible refine gate_dst (N:=5) rfl ?_);refine Kd.N_lit (Kd.slice 69 k69) _ 49 ?hg (N':=5) ?hd (xs:=([] : List (List (S69)))) (inner:=[]) (ok:=(fun k_=>(w.heap.size ≤ k_) ∧ k_ ≠ g)) (okp:=(fun k_=>(w.heap.size ≤ k_) ∧ k_ ≠ g)) ?hr ?hp (fun _ hk=>hk) ((show ∀ k_,w.heap.size ≤ k_ → (fun k_=>(w.heap.size ≤ k_) ∧ k_ ≠ g) k_ from fun k_ hk=>⟨(Nat.le_trans (keep_size (w:=w) (g:=g) (row:=none) (q3_ HK)) hk),IsS53.fresh (q1_ HI0) k_ hk⟩) _ (Nat.le_refl _)) (Below.refl _ _) (Nat.le_refl _) (by simp) ?_;(case hd=>rfl);(case hg=>rfl);(case hr=>first | (go_simp;done) | (go_simp;rfl));(case hp=>exact (Reps.none _ _));intro v226 w3 ho4 hb hg_ hnew_;clear hg_ hnew_;(first | rw [← Ny225.out] at ho4 | (simp only [Int.reduceToNat] at ho4;rw [← Ny225.out] at ho4));have n0_:=O (Kd.N_lower ho4 (keep_size (w:=w) (g:=g) (row:=none) (q3_ HK)));have n1_:=O (IsS53.below (q1_ HI0) hb);have n2_:=O (KeepBut.trans (q3_ HK) (KeepBut.of_below hb g none) (.inl rfl));have n3_:=O (below_step (q2_ HB HI0) hb);clear HI0 HK HB;have HO227:=n0_;have HI0:=n1_;have HK:=n2_;have HB:=n3_;clear n0_ n1_ n2_ n3_ hb ho4) | ((with_reducible refine gate_callee (f:=16) rfl ?_);refine goesM_ (some 7) Try.func16 #[.pointer (some ⟨g,0,none⟩),.int .i64 3] ?_;(with_reducible refine (spec_l11Rd_pick.calls k g s0_0 s0_1 3 t228 t229 w0 _ ?side1 ?side2 A2.out).mono ?_);(case side1=>exact q1_ HI0);(case side2=>exact q2_ HB HI0);rintro e w5 ⟨rfl,hi,hb,hk⟩;refine ⟨_,rfl,?_⟩;have n0_:=O (Kd.N_mono (Kd.N_keep (Kd.N_mono (ok:=fun k_=>(((w.heap.size ≤ k_)) ∧ k_ ≠ g)) (q11_ HO227) (fun k_ hk_=>(⟨hk_,hk_.2⟩ : _ ∧ k_ ≠ g))) hk (fun _ h=>h.2)) (fun _ h=>h.1));have n1_:=O (KeepBut.trans (q3_ HK) hk (.inl rfl));have n2_:=O (hb);have n3_:=O (hi);clear HO227 HK HB HI0;have HO227:=n0_;have HK:=n1_;have HB:=n2_;have HI0:=n3_;clear n0_ n1_ n2_ n3_;(try clear hb);(try clear hk);(try clear hi)))
 go_loopg [3,4] k (fun kq v3 v4 w'=>∃ (x3_1 : List (List (S69))) (x4_1 : Int) (x1001_1 : Int),v4 = .int .i64 x4_1 ∧ Aside0 (spec_l2Prog.l0 kq x3_1 x4_1 s0_0 x1001_1 = some (r1,r2)) ∧ Aside0 (kq ≤ k) ∧ Aside0 (Kd.N (Kd.slice 69 k69) 49 w' w.heap.size (fun k_=>(w.heap.size ≤ k_) ∧ k_ ≠ g) v3 x3_1) ∧ Aside0 (IsS53 w0 w' g s0_0 x1001_1) ∧ Aside0 (KeepBut w w' g none) ∧ Aside0 (Below w0.heap.size w0 w'))
 case atStart=>exact ⟨(y225),(wrap64 (1 + t228)),(t229),(by first | rfl | (simp;done) | (simp [*];done)),H',⟨Nat.le_refl _⟩,⟨by (with_reducible repeat (first | apply Kd.N_alloc | apply Kd.N_drewN | apply Kd.N_drew));exact HO227.out⟩,⟨by repeat (first | (with_reducible first | exact HI0.out | apply IsS53.alloc | apply IsS53.drewN | apply IsS53.drew | apply IsS53.set_1) | exact HI0.out)⟩,⟨by repeat (first | (with_reducible first | exact HK.out | apply KeepBut.set_ | apply keep_drewN | apply keep_drew | apply keep_alloc) | exact HK.out)⟩,⟨by repeat (first | (with_reducible first | exact HB.out | apply below_alloc | apply pw_below_drewN | apply below_drew1 | refine below_set ?_ (IsS53.ge HI0.out)) | exact HB.out)⟩⟩
 case round =>
  clear H';(try clear c1);(try clear p2);obtain ⟨x3_1,x4_1,x1001_1,rfl,HA,HK1,HO_3,HI0,HK,HB⟩:=hrel
  cases gk with
  | zero=>exact absurd HA.out (by simp [spec_l2Prog.l0])
  | succ k1 =>
   have H:=HA.out;clear HA;simp only [spec_l2Prog.l0] at H
   by_cases c6 : x4_1 > 0
   ·rw [if_pos c6] at H;have c6b0 : decide (0 < x4_1) = true:=decide_eq_true c6;clear c6;replace H:=Option.bind_eq_some_iff.mp H;obtain ⟨⟨t230,t233⟩,A70,H⟩:=H;replace H : (if x3_1.length < 5864062014805 then (spec_l2Prog.l0 k1 (x3_1 ++ [t230]) (wrap64 (x4_1 - 1)) s0_0 t233) else (none)) = some (r1,r2):=H;have A7:=O A70;clear A70
    by_cases c8 : x3_1.length < 5864062014805
    ·rw [if_pos c8] at H;have LMc8:=O c8;clear c8;obtain ⟨y234,hy234⟩ : ∃ y_ : List (List (S69)),y_ = (x3_1 ++ [t230]):=⟨_,rfl⟩
     replace H : (spec_l2Prog.l0 k1 y234 (wrap64 (x4_1 - 1)) s0_0 t233) = some (r1,r2):=by first | (rw [hy234];with_reducible exact H) | (have H2_:=(Option.bind_some _ _).symm.trans H;rw [hy234];with_reducible exact H2_) | (have H2_:=(Option.bind_some _ _).symm.trans H;with_reducible exact H2_) | with_reducible exact H | (rw [hy234];exact H) | exact H
     have Ny234:=O hy234;clear hy234;have H':=O H;clear H
     go_wp2_with (first | ((with_reducible refine gate_callee (f:=21) rfl ?_);refine goesM_ (some 15) Try.func21 #[.pointer (some ⟨g,0,none⟩)] ?_;(with_reducible refine (spec_l2Some.calls k1 g s0_0 x1001_1 t230 t233 w0 _ ?side1 ?side2 A7.out).mono ?_);(case side1=>exact q1_ HI0);(case side2=>exact q2_ HB HI0);rintro e w9 ⟨v231,rfl,ho0,hi,hb,hk⟩;refine ⟨_,rfl,?_⟩;have n0_:=O (Kd.N_mono (Kd.N_told (Kd.N_oldK (Kd.N_mono (ok:=fun k_=>(((w.heap.size ≤ k_)) ∧ k_ ≠ g)) (q11_ HO_3) (fun k_ hk_=>(⟨hk_,hk_.2⟩ : _ ∧ k_ ≠ g))) hk) (Kd.N_base ho0)) (fun _ h_=>h_.1));have n1_:=O (Kd.N_lower (Kd.N_mono (ok':=fun k_=>(w.heap.size ≤ k_) ∧ some k_ ≠ (u3 : Value).ownBlock ∧ k_ ≠ g) ho0 (fun k_ hk_=>⟨(Nat.le_trans (keep_size (w:=w) (g:=g) (row:=none) (q3_ HK)) hk_),(Kd.fresh' (Kd.N_lt (q11_ HO_3)) k_ hk_),(IsS53.fresh (q1_ HI0) k_ hk_)⟩)) (keep_size (w:=w) (g:=g) (row:=none) (q3_ HK)));have n2_:=O (KeepBut.trans (q3_ HK) hk (.inl rfl));have n3_:=O (hb);have n4_:=O (hi);clear HO_3 HK HB HI0;have HO_3:=n0_;have HO232:=n1_;have HK:=n2_;have HB:=n3_;have HI0:=n4_;clear n0_ n1_ n2_ n3_ n4_;(try clear hb);(try clear hk);(try clear hi);(try clear ho0);obtain ⟨Ao11,co11,eo11⟩:=Kd.N_slice HO232.out;subst eo11) | ((with_reducible refine gate_builtin (b:=.append) (xs:=#[.tmp 13,.tmp 16]) rfl ?_);at_builtin;refine Kd.N_append (Kd.slice 69 k69) w.heap.size rfl (.tmp 13) (.tmp 16) 41 49 (.slice none 0 0) 24 rfl Try.underlying41 info49 rfl (by decide) (by omega) u3 x3_1 t230 [.slice Ao11 t230.length co11] (fun k_=>(w.heap.size ≤ k_) ∧ k_ ≠ g) (fun k_=>((fun k_=>(w.heap.size ≤ k_) ∧ k_ ≠ g)) k_ ∧ some k_ ≠ (u3 : Value).ownBlock) rfl rfl ?aP (fun _ hk=>hk) ?aF ?aO (Below.refl _ _) ?aS ?aL ?_;(case aP=>exact (Kd.FK_slice_mk (Kd.N_reads' (Kd.N_mono (ok':=(fun k_=>((fun k_=>(w.heap.size ≤ k_) ∧ k_ ≠ g)) k_ ∧ some k_ ≠ (u3 : Value).ownBlock)) (HO232.out) (fun k_ hk=>⟨⟨hk.1,hk.2.2⟩,hk.2.1⟩))).2.1 (Kd.N_F (Kd.N_mono (ok':=(fun k_=>((fun k_=>(w.heap.size ≤ k_) ∧ k_ ≠ g)) k_ ∧ some k_ ≠ (u3 : Value).ownBlock)) (HO232.out) (fun k_ hk=>⟨⟨hk.1,hk.2.2⟩,hk.2.1⟩)))));(case aF=>exact (fun k_ hk=>⟨(Nat.le_trans (keep_size (w:=w) (g:=g) (row:=none) (q3_ HK)) hk),IsS53.fresh (q1_ HI0) k_ hk⟩));(case aO=>exact (by (with_reducible repeat (first | apply Kd.N_alloc | apply Kd.N_drewN | apply Kd.N_drew));exact Kd.N_mono HO_3.out (fun _ hk=>⟨hk.1.1,hk.1.2⟩)));(case aS=>exact (keep_size (w:=w) (g:=g) (row:=none) (q3_ HK)));(case aL=>have:=LMc8.out;omega);intro v235 w10 ho hb hg hat;rw [← Ny234.out] at ho;have n0_:=O (IsS53.grown (q1_ HI0) hg (IsS53.own_neN HI0.out HO_3.out (by decide)));have n1_:=O (below_weaken (q2_ HB HI0) HL.out hb);have n2_:=O (KeepBut.trans (q3_ HK) (KeepBut.of_grown hg g) (Kd.N_base2 HO_3.out));have n3_:=O (ho);clear HI0 HB HK HO_3 HO232;have HI0:=n0_;have HB:=n1_;have HK:=n2_;have HO236:=n3_;clear n0_ n1_ n2_ n3_ ho hb hg hat))
     go_roundg k1
     case measure=>have:=HK1.out;omega
     case rel=>exact ⟨(y234),(wrap64 (x4_1 - 1)),(t233),(by first | rfl | (simp;done) | (simp [*];done)),H',⟨by have:=HK1.out;omega⟩,⟨by (with_reducible repeat (first | apply Kd.N_alloc | apply Kd.N_drewN | apply Kd.N_drew));exact HO236.out⟩,⟨by repeat (first | (with_reducible first | exact HI0.out | apply IsS53.alloc | apply IsS53.drewN | apply IsS53.drew | apply IsS53.set_1) | exact HI0.out)⟩,⟨by repeat (first | (with_reducible first | exact HK.out | apply KeepBut.set_ | apply keep_drewN | apply keep_drew | apply keep_alloc) | exact HK.out)⟩,⟨by repeat (first | (with_reducible first | exact HB.out | apply below_alloc | apply pw_below_drewN | apply below_drew1 | refine below_set ?_ (IsS53.ge HI0.out)) | exact HB.out)⟩⟩
    ·rw [if_neg c8] at H
     exact absurd H (by simp)
   ·rw [if_neg c6] at H;have c6b0 : decide (0 < x4_1) = false:=decide_eq_false c6;clear c6;simp only [Option.some.injEq,Prod.mk.injEq] at H;obtain ⟨rfl,rfl⟩:=H
    go_wp2
    go_ret
    exact ⟨_,by first | rfl | (simp [errW_none,errW_some] <;> rfl) | (simp [*,errW_none,errW_some] <;> rfl),by (with_reducible repeat (first | apply Kd.N_alloc | apply Kd.N_drewN | apply Kd.N_drew));exact Kd.N_mono HO_3.out (fun _ hk=>hk.1),by repeat (first | (with_reducible first | exact HI0.out | apply IsS53.alloc | apply IsS53.drewN | apply IsS53.drew | apply IsS53.set_1) | exact HI0.out),by repeat (first | (with_reducible first | exact HB.out | apply below_alloc | apply pw_below_drewN | apply below_drew1 | refine below_set ?_ (IsS53.ge HI0.out)) | exact HB.out),by repeat (first | (with_reducible first | exact HK.out | apply KeepBut.set_ | apply keep_drewN | apply keep_drew | apply keep_alloc) | exact HK.out)⟩
end Go.Proofs.Ytfbocgagfodgnaa.P
