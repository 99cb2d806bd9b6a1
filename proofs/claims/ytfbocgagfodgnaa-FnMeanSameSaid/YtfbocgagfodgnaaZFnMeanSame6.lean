/- Parts of the proof of FnMeanSame: plain Lean functions of Go functions, and that the calls come to what they say; no condition beyond those that each theorem names. -/
import Derived.Test.YtfbocgagfodgnaaZFnMeanSame4
namespace Go.Proofs.Ytfbocgagfodgnaa.P
open Go.RowKit Go.Proofs.YtfbocgagfodgnaaW.PrintWords Go.Proofs.YtfbocgagfodgnaaW.PrintLast Go.Proofs.YtfbocgagfodgnaaW.PrintMore
open Bool renaming true → O, false → J
open Go.Proofs.YtfbocgagfodgnaaW.PrintWords renaming Aside0.mk → Y
open List renaming setIfInBounds_toArray → E, set_cons_zero → U, set_cons_succ → G
open Go renaming World.block_lt_of_cell? → X
attribute [local go_sem] max2_int min2_int max_two min_two max_three min_three max_four min_four
set_option linter.unusedVariables false
set_option linter.unusedSimpArgs false
mutual
def spec_l2Many.l0 : Nat → List (S69) → Int → Int → Int → Option (Int)
 | 0,_,_,_,_=>none
 | k + 1,x0,x1,x5,x6=>if x6 < (x0.length : Int) then (spec_l2Many.j1 k x0 x1 x5 x6 (decide (x1 > 0))) else (spec_l2Many.j1 k x0 x1 x5 x6 false)
def spec_l2Many.j1 : Nat → List (S69) → Int → Int → Int → Bool → Option (Int)
 | 0,_,_,_,_,_=>none
 | k + 1,x0,x1,x5,x6,x14=>if x14 = true then (if 0 ≤ x6 then (if x6 < (x0.length : Int) then ((spec_l2Many.f k ((rd_T69 x0 x6).f4) (wrap64 (x1 - 1))).bind fun t191=>((spec_l2Many.f k ((rd_T69 x0 x6).f5) (wrap64 (x1 - 1))).bind fun t193=>(spec_l2Many.l0 k x0 x1 (wrap64 ((wrap64 ((wrap64 (x5 + 1)) + t191)) + t193)) (wrap64 (x6 + 1))))) else (none)) else (none)) else (some x5)
def spec_l2Many.f : Nat → List (S69) → Int → Option (Int)
 | 0,_,_=>none
 | k + 1,l0,a1=>spec_l2Many.l0 k l0 a1 0 0
end
def spec_l2Many.T5 : Bool × List (List Nat × List Nat):=(true,[([],[]),([0],[0]),([],[]),([],[]),([2,3],[2,3]),([4],[4]),([5],[5]),([],[]),([7],[7]),([6,8],[6,8]),([1,9],[1,9]),([],[]),([],[]),([11,12],[11,12]),([13],[13]),([14],[14]),([],[]),([16],[16]),([15,17,9],[15,17]),([10,18],[10,18]),([19,18,0,1,2,3,4,5,6,7,8,9,10,11,12,13,14,15,16,17,18,19],[0,19])])
def spec_l2Many.B5 : List Nat:=[0,1,0,0,12,28,60,0,128,508,1023,0,0,6144,14336,30720,0,65536,261116,524287,1048575]
theorem spec_l2Many.tab5 : rtab .any (opsOf Try.f51 5) = spec_l2Many.T5:=by kernel_rfl
theorem spec_l2Many.bits5 : waitsOk spec_l2Many.T5.2 spec_l2Many.B5 = true:=by kernel_rfl
private theorem y45_ {Z : Prop} (h : Z:=by first | rfl | (simp;done) | (simp [*];done)) : Z:=h
private theorem y46_ {A Z : Prop} (a0 : Aside0 A) (h : A → Z:=by intro h0_;repeat (first | (with_reducible first | exact h0_ | apply below_alloc | apply pw_below_drewN | apply below_drew1) | exact h0_)) : Z:=h a0.out
private theorem y47_ {Z : Prop} (h : Z:=by first | (with_reducible assumption) | assumption) : Z:=h
private theorem y48_ {A B Z : Prop} (a0 : Aside0 A) (a1 : Aside0 B) (h : A → B → Z:=by intro h0_ h1_;repeat (first | exact (Kd.C_below h0_ h1_) | (with_reducible refine Kd.C_alloc ?_ _) | (with_reducible refine Kd.C_drewN ?_ _) | (with_reducible refine Kd.C_drew ?_))) : Z:=h a0.out a1.out
private theorem y49_ {Z : Prop} (h : Z:=by first | rfl | (simp [errW_none,errW_some] <;> rfl) | (simp [*,errW_none,errW_some] <;> rfl)) : Z:=h
set_option maxHeartbeats 8000000 in
set_option maxRecDepth 100000 in
theorem spec_l2Many.calls (k : Nat) : ∀ (A0 : Option Addr) (c0 : Nat) (l0 : List (S69)) (a1 : Int) (r : Int) (w : World) (hr0 : Kd.C k69 w A0 l0.length l0) (hc0 : l0.length ≤ c0) (h : spec_l2Many.f k l0 a1 = some r),
  Calls Try.prog 51 #[.slice A0 l0.length c0,.int .i64 a1] w fun e w'=>e = .returned (.int .i64 r) ∧ Below w.heap.size w w':=by
 induction k using Nat.strongRecOn with
 | _ k ih =>
 intro A0 c0 l0 a1 r w hr0 hc0 h
 cases k with
 | zero=>exact absurd h (by simp [spec_l2Many.f])
 | succ k =>
 simp only [spec_l2Many.f] at h;have HR0:=Y hr0;have HC0:=Y hc0;clear hr0 hc0;have HB:=Y (Below.refl w.heap.size w);have H : (spec_l2Many.l0 k l0 a1 0 0) = some r:=h;clear h;have H':=Y H;clear H;go_enter Try.func51,Try.ntmps51
 go_wp2
 go_loopg [5,6] k (fun kq v5 v6 w'=>∃ (x5_1 : Int) (x6_1 : Int),v5 = .int .i64 x5_1 ∧ v6 = .int .i64 x6_1 ∧ Aside0 (spec_l2Many.l0 kq l0 a1 x5_1 x6_1 = some r) ∧ Aside0 (kq ≤ k) ∧ Aside0 (Below w.heap.size w w'))
 case atStart=>exact ⟨(0),(0),(y45_),(y45_),H',⟨Nat.le_refl _⟩,⟨y46_ HB⟩⟩
 case round =>
  clear H';obtain ⟨x5_1,x6_1,rfl,rfl,HA,HK1,HB⟩:=hrel
  cases gk with
  | zero=>exact absurd HA.out (by simp [spec_l2Many.l0])
  | succ k1 =>
   have H:=HA.out;clear HA;simp only [spec_l2Many.l0] at H;have HC3:=Y H;clear H
   go_upto_region 3 with (fail)
   go_cut [14] (fun v14 wc=>∃ (kq : Nat) (x14_2 : Bool),v14 = .bool x14_2 ∧ Aside0 (spec_l2Many.j1 kq l0 a1 x5_1 x6_1 x14_2 = some r) ∧ Aside0 (kq ≤ k1) ∧ Aside0 (Below w.heap.size w wc))
   case first =>
    have H:=HC3.out;clear HC3
    by_cases c4 : x6_1 < (l0.length : Int)
    ·rw [if_pos c4] at H;have c4b0 : decide (x6_1 < (l0.length : Int)) = true:=decide_eq_true c4;clear c4
     (first | rw [c4b0] | (simp only [i64_w,i32_w];rw [c4b0]) | skip)
     have H':=Y H;clear H
     go_wp2
     go_meet
     case rel=>exact ⟨_,(decide (a1 > 0)),(y45_),H',⟨by have:=HK1.out;first | omega | exact Nat.le_refl _⟩,⟨y46_ HB⟩⟩
    ·rw [if_neg c4] at H;have c4b0 : decide (x6_1 < (l0.length : Int)) = false:=decide_eq_false c4;clear c4
     (first | rw [c4b0] | (simp only [i64_w,i32_w];rw [c4b0]) | skip)
     have H':=Y H;clear H
     go_wp2
     go_meet
     case rel=>exact ⟨_,(false),(y45_),H',⟨by have:=HK1.out;first | omega | exact Nat.le_refl _⟩,⟨y46_ HB⟩⟩
   case rest =>
    clear HC3;obtain ⟨kq,x14_2,rfl,HA,HJ2,HB⟩:=hcut
    cases kq with
    | zero=>exact absurd HA.out (by simp [spec_l2Many.j1])
    | succ kj2 =>
     have H:=HA.out;clear HA;simp only [spec_l2Many.j1] at H
     by_cases c5 : x14_2 = true
     ·subst c5
      rw [if_pos rfl] at H
      by_cases c6 : 0 ≤ x6_1
      ·rw [if_pos c6] at H;have c6b0 : decide (0 ≤ x6_1) = true:=decide_eq_true c6;clear c6
       by_cases c7 : x6_1 < (l0.length : Int)
       ·rw [if_pos c7] at H;have c7b0 : decide (x6_1 < (l0.length : Int)) = true:=decide_eq_true c7;clear c7;obtain ⟨t191,A8,H⟩:=bnd H;obtain ⟨t193,A9,H⟩:=bnd H;have H':=Y H;clear H
        try go_wp2
        replace HB:=Y (below_drew1 HB.out)
        have p190 : 0 ≤ (x6_1 : Int):=of_decide_eq_true (y47_)
        have q190 : x6_1 < (l0.length : Int):=of_decide_eq_true (y47_)
        obtain ⟨ad190,A190_4,c190_4,A190_5,c190_5,e190,hx190_0,hx190_1,hx190_2,hx190_3,hx190_4,hx190_5,hl190_4,hi190_4,hl190_5,hi190_5⟩:=at_T69 HR0.out x6_1 p190 q190;have hw190_5:=hx190_5;have hw190_4:=hx190_4;have hw190_3:=hx190_3;have hw190_2:=hx190_2;have hw190_1:=hx190_1;have hw190_0:=hx190_0
        cases e190
        replace hx190_0:=clB HB hx190_0;replace hx190_1:=clB HB hx190_1;replace hx190_2:=clB HB hx190_2;replace hx190_3:=clB HB hx190_3;replace hx190_4:=clB HB hx190_4;replace hx190_5:=clB HB hx190_5;have HR190_4:=Y hi190_4;have HC190_4:=Y hl190_4;clear hi190_4 hl190_4;have HR190_5:=Y hi190_5;have HC190_5:=Y hl190_5;clear hi190_5 hl190_5;replace p190:=eq_true p190;replace q190:=eq_true q190
        have p192 : 0 ≤ (x6_1 : Int):=of_decide_eq_true (y47_)
        have q192 : x6_1 < (l0.length : Int):=of_decide_eq_true (y47_)
        obtain ⟨ad192,A192_4,c192_4,A192_5,c192_5,e192,hx192_0,hx192_1,hx192_2,hx192_3,hx192_4,hx192_5,hl192_4,hi192_4,hl192_5,hi192_5⟩:=at_T69 HR0.out x6_1 p192 q192;have hw192_5:=hx192_5;have hw192_4:=hx192_4;have hw192_3:=hx192_3;have hw192_2:=hx192_2;have hw192_1:=hx192_1;have hw192_0:=hx192_0
        obtain rfl : ad190 = ad192:=(by injection e192)
        replace hx192_0:=clB HB hx192_0;replace hx192_1:=clB HB hx192_1;replace hx192_2:=clB HB hx192_2;replace hx192_3:=clB HB hx192_3;replace hx192_4:=clB HB hx192_4;replace hx192_5:=clB HB hx192_5;have HR192_4:=Y hi192_4;have HC192_4:=Y hl192_4;clear hi192_4 hl192_4;have HR192_5:=Y hi192_5;have HC192_5:=Y hl192_5;clear hi192_5 hl192_5;replace p192:=eq_true p192;replace q192:=eq_true q192;have ea_:=Option.some.inj (hx190_4.symm.trans hx192_4)
        injection ea_ with ea_ en_ ec_
        subst ea_;subst ec_;clear en_;have ea_:=Option.some.inj (hx190_5.symm.trans hx192_5)
        injection ea_ with ea_ en_ ec_
        subst ea_;subst ec_;clear en_
        refine start_ (n:=21) (S:=fun w'=>w'.cell? (ad190.add ((x6_1).toNat * 6)) = some (.int .i64 ((rd_T69 l0 x6_1).f0)) ∧ w'.cell? ⟨(ad190.add ((x6_1).toNat * 6)).block,(ad190.add ((x6_1).toNat * 6)).off + 1,none⟩ = some (.int .i64 ((rd_T69 l0 x6_1).f1)) ∧ w'.cell? ⟨(ad190.add ((x6_1).toNat * 6)).block,(ad190.add ((x6_1).toNat * 6)).off + 2,none⟩ = some (.int .i64 ((rd_T69 l0 x6_1).f2)) ∧ w'.cell? ⟨(ad190.add ((x6_1).toNat * 6)).block,(ad190.add ((x6_1).toNat * 6)).off + 3,none⟩ = some (.int .i64 ((rd_T69 l0 x6_1).f3)) ∧ w'.cell? ⟨(ad190.add ((x6_1).toNat * 6)).block,(ad190.add ((x6_1).toNat * 6)).off + 4,none⟩ = some (.slice A190_4 ((rd_T69 l0 x6_1).f4).length c190_4) ∧ w'.cell? ⟨(ad190.add ((x6_1).toNat * 6)).block,(ad190.add ((x6_1).toNat * 6)).off + 5,none⟩ = some (.slice A190_5 ((rd_T69 l0 x6_1).f5).length c190_5) ∧ w'.cell? (ad190.add ((x6_1).toNat * 6)) = some (.int .i64 ((rd_T69 l0 x6_1).f0)) ∧ w'.cell? ⟨(ad190.add ((x6_1).toNat * 6)).block,(ad190.add ((x6_1).toNat * 6)).off + 1,none⟩ = some (.int .i64 ((rd_T69 l0 x6_1).f1)) ∧ w'.cell? ⟨(ad190.add ((x6_1).toNat * 6)).block,(ad190.add ((x6_1).toNat * 6)).off + 2,none⟩ = some (.int .i64 ((rd_T69 l0 x6_1).f2)) ∧ w'.cell? ⟨(ad190.add ((x6_1).toNat * 6)).block,(ad190.add ((x6_1).toNat * 6)).off + 3,none⟩ = some (.int .i64 ((rd_T69 l0 x6_1).f3)) ∧ w'.cell? ⟨(ad190.add ((x6_1).toNat * 6)).block,(ad190.add ((x6_1).toNat * 6)).off + 4,none⟩ = some (.slice A190_4 ((rd_T69 l0 x6_1).f4).length c190_4) ∧ w'.cell? ⟨(ad190.add ((x6_1).toNat * 6)).block,(ad190.add ((x6_1).toNat * 6)).off + 5,none⟩ = some (.slice A190_5 ((rd_T69 l0 x6_1).f5).length c190_5)) (ds:=[]) #[J,J,J,J,J,J,J,J,J,J,J,J,J,J,J,J,J,J,J,J,J] (by kernel_rfl) rfl rfl ⟨((HB.out.cell (X w _ hw190_0)).trans hw190_0),((HB.out.cell (X w _ hw190_1)).trans hw190_1),((HB.out.cell (X w _ hw190_2)).trans hw190_2),((HB.out.cell (X w _ hw190_3)).trans hw190_3),((HB.out.cell (X w _ hw190_4)).trans hw190_4),((HB.out.cell (X w _ hw190_5)).trans hw190_5),((HB.out.cell (X w _ hw192_0)).trans hw192_0),((HB.out.cell (X w _ hw192_1)).trans hw192_1),((HB.out.cell (X w _ hw192_2)).trans hw192_2),((HB.out.cell (X w _ hw192_3)).trans hw192_3),((HB.out.cell (X w _ hw192_4)).trans hw192_4),((HB.out.cell (X w _ hw192_5)).trans hw192_5)⟩ (fun hHeld=>?_);refine with_tabW spec_l2Many.tab5 spec_l2Many.bits5 (fun HT_ HW_=>?_)
        generalize wc.drew = w10 at HB HR190_4 HR190_5 HR192_4 HR192_5 hx190_0 hx190_1 hx190_2 hx190_3 hx190_4 hx190_5 hx192_0 hx192_1 hx192_2 hx192_3 hx192_4 hx192_5 hHeld ⊢
        refine pure_ (i:=0) (N:=some 17) (v:=?_) (a':=?_) #[O,J,J,J,J,J,J,J,J,J,J,J,J,J,J,J,J,J,J,J,J] rfl rfl (any_of HT_.out (by kernel_rfl)) (fun _ _ _ h=>h) (Or.inl ⟨by rfl,?_⟩) ?_ ?_;rotate_left;(intro w';go_simp;with_reducible rfl);rotate_left;((try simp only [Act.put,E,U,G,i64_w,i32_w]);rfl)
        refine pure_ (i:=1) (N:=some 18) (v:=?_) (a':=?_) #[O,O,J,J,J,J,J,J,J,J,J,J,J,J,J,J,J,J,J,J,J] rfl rfl (any_of HT_.out (by kernel_rfl)) (fun _ _ _ h=>h) (Or.inl ⟨by rfl,?_⟩) ?_ ?_;rotate_left;(intro w';go_simp;with_reducible rfl);rotate_left;((try simp only [Act.put,E,U,G,i64_w,i32_w]);rfl)
        refine pure_ (i:=2) (N:=some 19) (v:=?_) (a':=?_) #[O,O,O,J,J,J,J,J,J,J,J,J,J,J,J,J,J,J,J,J,J] rfl rfl (any_of HT_.out (by kernel_rfl)) (fun _ _ _ h=>h) (Or.inl ⟨by rfl,?_⟩) ?_ ?_;rotate_left;(intro w';go_simp;with_reducible rfl);rotate_left;((try simp only [Act.put,E,U,G,i64_w,i32_w]);rfl)
        refine pure_ (i:=3) (N:=some 20) (v:=?_) (a':=?_) #[O,O,O,O,J,J,J,J,J,J,J,J,J,J,J,J,J,J,J,J,J] rfl rfl (any_of HT_.out (by kernel_rfl)) (fun _ _ _ h=>h) (Or.inl ⟨by rfl,?_⟩) ?_ ?_;rotate_left;(intro w';go_simp;with_reducible rfl);rotate_left;((try simp only [Act.put,E,U,G,i64_w,i32_w]);rfl)
        refine pure_ (i:=4) (N:=some 21) (v:=?_) (a':=?_) #[O,O,O,O,O,J,J,J,J,J,J,J,J,J,J,J,J,J,J,J,J] rfl rfl (any_of HT_.out (by kernel_rfl)) (fun _ _ _ h=>h) (Or.inl ⟨by rfl,?_⟩) ?_ ?_;rotate_left;(intro w';go_simp;with_reducible rfl);rotate_left;((try simp only [Act.put,E,U,G,i64_w,i32_w]);rfl)
        refine pure_ (i:=5) (N:=some 22) (v:=?_) (a':=?_) #[O,O,O,O,O,O,J,J,J,J,J,J,J,J,J,J,J,J,J,J,J] rfl rfl (any_of HT_.out (by kernel_rfl)) (fun _ _ _ h=>h) (Or.inl ⟨by rfl,?_⟩) ?_ ?_;rotate_left;(intro w';go_simp;with_reducible rfl);rotate_left;((try simp only [Act.put,E,U,G,i64_w,i32_w]);rfl)
        refine pure_ (i:=7) (N:=some 24) (v:=?_) (a':=?_) #[O,O,O,O,O,O,J,O,J,J,J,J,J,J,J,J,J,J,J,J,J] rfl rfl (any_of HT_.out (by kernel_rfl)) (fun _ _ _ h=>h) (Or.inl ⟨by rfl,?_⟩) ?_ ?_;rotate_left;(intro w';go_simp;with_reducible rfl);rotate_left;((try simp only [Act.put,E,U,G,i64_w,i32_w]);rfl)
        refine pure_ (i:=8) (N:=some 25) (v:=?_) (a':=?_) #[O,O,O,O,O,O,J,O,O,J,J,J,J,J,J,J,J,J,J,J,J] rfl rfl (any_of HT_.out (by kernel_rfl)) (fun _ _ _ h=>h) (Or.inl ⟨by rfl,?_⟩) ?_ ?_;rotate_left;(intro w';go_simp;with_reducible rfl);rotate_left;((try simp only [Act.put,E,U,G,i64_w,i32_w]);rfl)
        refine pure_ (i:=11) (N:=some 28) (v:=?_) (a':=?_) #[O,O,O,O,O,O,J,O,O,J,J,O,J,J,J,J,J,J,J,J,J] rfl rfl (any_of HT_.out (by kernel_rfl)) (fun _ _ _ h=>h) (Or.inl ⟨by rfl,?_⟩) ?_ ?_;rotate_left;(intro w';go_simp;with_reducible rfl);rotate_left;((try simp only [Act.put,E,U,G,i64_w,i32_w]);rfl)
        refine pure_ (i:=12) (N:=some 29) (v:=?_) (a':=?_) #[O,O,O,O,O,O,J,O,O,J,J,O,O,J,J,J,J,J,J,J,J] rfl rfl (any_of HT_.out (by kernel_rfl)) (fun _ _ _ h=>h) (Or.inl ⟨by rfl,?_⟩) ?_ ?_;rotate_left;(intro w';go_simp;with_reducible rfl);rotate_left;((try simp only [Act.put,E,U,G,i64_w,i32_w]);rfl)
        refine pure_ (i:=13) (N:=some 30) (v:=?_) (a':=?_) #[O,O,O,O,O,O,J,O,O,J,J,O,O,O,J,J,J,J,J,J,J] rfl rfl (any_of HT_.out (by kernel_rfl)) (fun _ _ _ h=>h) (Or.inl ⟨by rfl,?_⟩) ?_ ?_;rotate_left;(intro w';go_simp;with_reducible rfl);rotate_left;((try simp only [Act.put,E,U,G,i64_w,i32_w]);rfl)
        refine pure_ (i:=14) (N:=some 31) (v:=?_) (a':=?_) #[O,O,O,O,O,O,J,O,O,J,J,O,O,O,O,J,J,J,J,J,J] rfl rfl (any_of HT_.out (by kernel_rfl)) (fun _ _ _ h=>h) (Or.inl ⟨by rfl,?_⟩) ?_ ?_;rotate_left;(intro w';go_simp;with_reducible rfl);rotate_left;((try simp only [Act.put,E,U,G,i64_w,i32_w]);rfl)
        refine pure_ (i:=16) (N:=some 33) (v:=?_) (a':=?_) #[O,O,O,O,O,O,J,O,O,J,J,O,O,O,O,J,O,J,J,J,J] rfl rfl (any_of HT_.out (by kernel_rfl)) (fun _ _ _ h=>h) (Or.inl ⟨by rfl,?_⟩) ?_ ?_;rotate_left;(intro w';go_simp;with_reducible rfl);rotate_left;((try simp only [Act.put,E,U,G,i64_w,i32_w]);rfl)
        refine pure_ (i:=17) (N:=some 34) (v:=?_) (a':=?_) #[O,O,O,O,O,O,J,O,O,J,J,O,O,O,O,J,O,O,J,J,J] rfl rfl (any_of HT_.out (by kernel_rfl)) (fun _ _ _ h=>h) (Or.inl ⟨by rfl,?_⟩) ?_ ?_;rotate_left;(intro w';go_simp;with_reducible rfl);rotate_left;((try simp only [Act.put,E,U,G,i64_w,i32_w]);rfl)
        refine take_ (i:=6) (N:=some 23) (v:=?_) (a':=?_) #[O,O,O,O,O,O,O,O,O,J,J,O,O,O,O,J,O,O,J,J,J] rfl rfl (take_ofW HT_.out HW_.out (by kernel_rfl)) (fun _ _ _ h=>h) (Or.inl ⟨by rfl,?_⟩) hHeld ?_ ?_;rotate_left;(rintro w' ⟨s0,s1,s2,s3,s4,s5,s6,s7,s8,s9,s10,s11⟩;go_simp;with_reducible rfl);rotate_left;((try simp only [Act.put,E,U,G,i64_w,i32_w]);rfl)
        refine take_ (i:=15) (N:=some 32) (v:=?_) (a':=?_) #[O,O,O,O,O,O,O,O,O,J,J,O,O,O,O,O,O,O,J,J,J] rfl rfl (take_ofW HT_.out HW_.out (by kernel_rfl)) (fun _ _ _ h=>h) (Or.inl ⟨by rfl,?_⟩) hHeld ?_ ?_;rotate_left;(rintro w' ⟨s0,s1,s2,s3,s4,s5,s6,s7,s8,s9,s10,s11⟩;go_simp;with_reducible rfl);rotate_left;((try simp only [Act.put,E,U,G,i64_w,i32_w]);rfl)
        refine one_ (i:=9) (N:=some 26) #[O,O,O,O,O,O,O,O,O,O,J,O,O,O,O,O,O,O,J,J,J] rfl rfl (one_of HT_.out (by kernel_rfl)) (by decide) (fun K hK=>?_)
        refine goes_ Try.func51 (by kernel_rfl) rfl #[.slice A190_4 ((rd_T69 l0 x6_1).f4).length c190_4,.int .i64 (wrap64 (a1 - 1))] (by rfl) rfl rfl (by (try simp only [List.map_toArray,List.map_cons,List.map_nil]);first | done | rfl | (simp only [List.length_drop,List.length_take];rfl)) ?_
        with_reducible refine (ih kj2 (by have:=HK1.out;have:=HJ2.out;omega) _ _ ((rd_T69 l0 x6_1).f4) (wrap64 (a1 - 1)) t191 _ ?side1 ?side2 A8.out).mono ?_
        (case side1=>exact y48_ HR190_4 HB)
        (case side2=>exact HC190_4.out)
        rintro e w11 ⟨rfl,hb⟩
        refine ⟨_,rfl,?_⟩
        have n0_:=Y (below_step (q0_ HB) hb)
        clear HB;have HB:=n0_;clear n0_
        refine hK.out _ _ ⟨((HB.out.cell (X w _ hw190_0)).trans hw190_0),((HB.out.cell (X w _ hw190_1)).trans hw190_1),((HB.out.cell (X w _ hw190_2)).trans hw190_2),((HB.out.cell (X w _ hw190_3)).trans hw190_3),((HB.out.cell (X w _ hw190_4)).trans hw190_4),((HB.out.cell (X w _ hw190_5)).trans hw190_5),((HB.out.cell (X w _ hw192_0)).trans hw192_0),((HB.out.cell (X w _ hw192_1)).trans hw192_1),((HB.out.cell (X w _ hw192_2)).trans hw192_2),((HB.out.cell (X w _ hw192_3)).trans hw192_3),((HB.out.cell (X w _ hw192_4)).trans hw192_4),((HB.out.cell (X w _ hw192_5)).trans hw192_5)⟩ (fun hHeld=>?_)
        clear hK K
        refine norm_ (a':=?_) ?_ ?_
        rotate_left
        ·show Act.put _ (some 26) _ = _
         simp only [Act.put,E,U,G,i64_w,i32_w]
         rfl
        refine pure_ (i:=10) (N:=some 27) (v:=?_) (a':=?_) #[O,O,O,O,O,O,O,O,O,O,O,O,O,O,O,O,O,O,J,J,J] rfl rfl (any_of HT_.out (by kernel_rfl)) (fun _ _ _ h=>h) (Or.inl ⟨by rfl,?_⟩) ?_ ?_;rotate_left;(intro w';go_simp;with_reducible rfl);rotate_left;((try simp only [Act.put,E,U,G,i64_w,i32_w]);rfl)
        refine one_ (i:=18) (N:=some 35) #[O,O,O,O,O,O,O,O,O,O,O,O,O,O,O,O,O,O,O,J,J] rfl rfl (one_of HT_.out (by kernel_rfl)) (by decide) (fun K hK=>?_)
        refine goes_ Try.func51 (by kernel_rfl) rfl #[.slice A190_5 ((rd_T69 l0 x6_1).f5).length c190_5,.int .i64 (wrap64 (a1 - 1))] (by rfl) rfl rfl (by (try simp only [List.map_toArray,List.map_cons,List.map_nil]);first | done | rfl | (simp only [List.length_drop,List.length_take];rfl)) ?_
        with_reducible refine (ih kj2 (by have:=HK1.out;have:=HJ2.out;omega) _ _ ((rd_T69 l0 x6_1).f5) (wrap64 (a1 - 1)) t193 _ ?side1 ?side2 A9.out).mono ?_
        (case side1=>exact y48_ HR192_5 HB)
        (case side2=>exact HC192_5.out)
        rintro e w12 ⟨rfl,hb⟩
        refine ⟨_,rfl,?_⟩
        have n0_:=Y (below_step (q0_ HB) hb)
        clear HB;have HB:=n0_;clear n0_
        refine hK.out _ _ ⟨((HB.out.cell (X w _ hw190_0)).trans hw190_0),((HB.out.cell (X w _ hw190_1)).trans hw190_1),((HB.out.cell (X w _ hw190_2)).trans hw190_2),((HB.out.cell (X w _ hw190_3)).trans hw190_3),((HB.out.cell (X w _ hw190_4)).trans hw190_4),((HB.out.cell (X w _ hw190_5)).trans hw190_5),((HB.out.cell (X w _ hw192_0)).trans hw192_0),((HB.out.cell (X w _ hw192_1)).trans hw192_1),((HB.out.cell (X w _ hw192_2)).trans hw192_2),((HB.out.cell (X w _ hw192_3)).trans hw192_3),((HB.out.cell (X w _ hw192_4)).trans hw192_4),((HB.out.cell (X w _ hw192_5)).trans hw192_5)⟩ (fun hHeld=>?_)
        clear hK K
        refine norm_ (a':=?_) ?_ ?_
        rotate_left
        ·show Act.put _ (some 35) _ = _
         simp only [Act.put,E,U,G,i64_w,i32_w]
         rfl
        refine pure_ (i:=19) (N:=some 36) (v:=?_) (a':=?_) #[O,O,O,O,O,O,O,O,O,O,O,O,O,O,O,O,O,O,O,O,J] rfl rfl (any_of HT_.out (by kernel_rfl)) (fun _ _ _ h=>h) (Or.inl ⟨by rfl,?_⟩) ?_ ?_;rotate_left;(intro w';go_simp;with_reducible rfl);rotate_left;((try simp only [Act.put,E,U,G,i64_w,i32_w]);rfl)
        refine pure_ (i:=20) (N:=some 5) (v:=?_) (a':=?_) #[O,O,O,O,O,O,O,O,O,O,O,O,O,O,O,O,O,O,O,O,O] rfl rfl (any_of HT_.out (by kernel_rfl)) (fun _ _ _ h=>h) (Or.inl ⟨by rfl,?_⟩) ?_ ?_;rotate_left;(intro w';go_simp;with_reducible rfl);rotate_left;((try simp only [Act.put,E,U,G,i64_w,i32_w]);rfl)
        refine done_ (done_of HT_.out (by kernel_rfl)) ?_
        try go_wp2
        go_roundg kj2
        case measure=>have:=HK1.out;have:=HJ2.out;omega
        case rel=>exact ⟨(wrap64 ((wrap64 ((wrap64 (x5_1 + 1)) + t191)) + t193)),(wrap64 (x6_1 + 1)),(y45_),(y45_),H',⟨by have:=HK1.out;have:=HJ2.out;omega⟩,⟨y46_ HB⟩⟩
       ·rw [if_neg c7] at H
        exact absurd H (by simp)
      ·rw [if_neg c6] at H
       exact absurd H (by simp)
     ·replace c5:=Bool.eq_false_iff.mpr c5;subst c5
      rw [if_neg (show ¬ (false = true) by decide)] at H;obtain rfl:=Option.some.inj H
      go_wp2
      go_ret
      exact ⟨y49_,y46_ HB⟩
def spec_StmtsOk.f (k : Nat) (l0 : List (S69)) : Option (Bool):=(spec_l2List.f k l0 3 (-1)).bind fun t194=>(if t194 = true then ((spec_l2Many.f k l0 3).bind fun t195=>(some (decide (t195 ≤ 14)))) else (some false))
set_option maxHeartbeats 8000000 in
set_option maxRecDepth 100000 in
theorem spec_StmtsOk.calls (k : Nat) (A0 : Option Addr) (c0 : Nat) (l0 : List (S69)) (r : Bool) (w : World) (hr0 : Kd.C k69 w A0 l0.length l0) (hc0 : l0.length ≤ c0) (h : spec_StmtsOk.f k l0 = some r) :
  Calls Try.prog 40 #[.slice A0 l0.length c0] w fun e w'=>e = .returned (.bool r) ∧ Below w.heap.size w w':=by
 have HR0:=Y hr0;have HC0:=Y hc0;clear hr0 hc0;have HB:=Y (Below.refl w.heap.size w);have H : ((spec_l2List.f k l0 3 (-1)).bind fun t194=>(if t194 = true then ((spec_l2Many.f k l0 3).bind fun t195=>(some (decide (t195 ≤ 14)))) else (some false))) = some r:=h;clear h;obtain ⟨t194,A2,H⟩:=bnd H
 by_cases c3 : t194 = true
 ·subst c3
  rw [if_pos rfl] at H;obtain ⟨t195,A4,H⟩:=bnd H;obtain rfl:=Option.some.inj H;go_enter Try.func40,Try.ntmps40
  go_wp2_with (first | ((with_reducible refine gate_callee (f:=50) rfl ?_);refine goesM_ (some 4) Try.func50 #[.slice A0 l0.length c0,.int .i64 3,.int .i64 (-1)] ?_;(with_reducible refine (spec_l2List.calls k _ _ l0 3 (-1) true _ ?side1 ?side2 A2.out).mono ?_);(case side1=>repeat (first | exact HR0.out | (with_reducible refine Kd.C_alloc ?_ _) | (with_reducible refine Kd.C_drewN ?_ _) | (with_reducible refine Kd.C_drew ?_)));(case side2=>exact HC0.out);rintro e w5 ⟨rfl,hb⟩;refine ⟨_,rfl,?_⟩;replace HB:=Y (below_step (q0_ HB) hb);(try clear hb)) | (go_at_call 51;(with_reducible refine (spec_l2Many.calls k _ _ l0 3 t195 _ ?side1 ?side2 A4.out).mono ?_);(case side1=>exact y48_ HR0 HB);(case side2=>exact HC0.out);rintro e w6 ⟨rfl,hb⟩;replace HB:=Y (below_step (q0_ HB) hb);(try clear hb)))
  go_ret
  exact ⟨y49_,y46_ HB⟩
 ·replace c3:=Bool.eq_false_iff.mpr c3;subst c3
  rw [if_neg (show ¬ (false = true) by decide)] at H;obtain rfl:=Option.some.inj H;go_enter Try.func40,Try.ntmps40
  go_wp2_with (first | ((with_reducible refine gate_callee (f:=50) rfl ?_);refine goesM_ (some 4) Try.func50 #[.slice A0 l0.length c0,.int .i64 3,.int .i64 (-1)] ?_;(with_reducible refine (spec_l2List.calls k _ _ l0 3 (-1) false _ ?side1 ?side2 A2.out).mono ?_);(case side1=>repeat (first | exact HR0.out | (with_reducible refine Kd.C_alloc ?_ _) | (with_reducible refine Kd.C_drewN ?_ _) | (with_reducible refine Kd.C_drew ?_)));(case side2=>exact HC0.out);rintro e w7 ⟨rfl,hb⟩;refine ⟨_,rfl,?_⟩;replace HB:=Y (below_step (q0_ HB) hb);(try clear hb)))
  go_ret
  exact ⟨y49_,y46_ HB⟩
def spec_ProgOk.l0 : Nat → List (List (S69)) → Int → Option (Bool)
 | 0,_,_=>none
 | k + 1,x0,x3=>if x3 < (x0.length : Int) then (if 0 ≤ x3 then ((spec_StmtsOk.f k (rd_L3 x0 x3)).bind fun t238=>(if t238 = true then (spec_ProgOk.l0 k x0 (wrap64 (x3 + 1))) else (some false))) else (none)) else (if (x0.length : Int) ≥ 1 then (some (decide ((x0.length : Int) ≤ 3))) else (some false))
def spec_ProgOk.f (k : Nat) (l0 : List (List (S69))) : Option (Bool):=spec_ProgOk.l0 k l0 0
set_option maxHeartbeats 8000000 in
set_option maxRecDepth 100000 in
theorem spec_ProgOk.calls (k : Nat) (A0 : Option Addr) (c0 : Nat) (l0 : List (List (S69))) (r : Bool) (w : World) (hr0 : Kd.C (Kd.slice 69 k69) w A0 l0.length l0) (hc0 : l0.length ≤ c0) (h : spec_ProgOk.f k l0 = some r) :
  Calls Try.prog 22 #[.slice A0 l0.length c0] w fun e w'=>e = .returned (.bool r) ∧ Below w.heap.size w w':=by
 have HR0:=Y hr0;have HC0:=Y hc0;clear hr0 hc0;have HB:=Y (Below.refl w.heap.size w);have H : (spec_ProgOk.l0 k l0 0) = some r:=h;clear h;have H':=Y H;clear H;go_enter Try.func22,Try.ntmps22
 go_wp2
 go_loopg [3] k (fun kq v3 w'=>∃ (x3_1 : Int),v3 = .int .i64 x3_1 ∧ Aside0 (spec_ProgOk.l0 kq l0 x3_1 = some r) ∧ Aside0 (kq ≤ k) ∧ Aside0 (Below w.heap.size w w'))
 case atStart=>exact ⟨(0),(y45_),H',⟨Nat.le_refl _⟩,⟨y46_ HB⟩⟩
 case round =>
  clear H';obtain ⟨x3_1,rfl,HA,HK1,HB⟩:=hrel
  cases gk with
  | zero=>exact absurd HA.out (by simp [spec_ProgOk.l0])
  | succ k1 =>
   have H:=HA.out;clear HA;simp only [spec_ProgOk.l0] at H
   by_cases c2 : x3_1 < (l0.length : Int)
   ·rw [if_pos c2] at H;have c2b0 : decide (x3_1 < (l0.length : Int)) = true:=decide_eq_true c2;clear c2
    by_cases c3 : 0 ≤ x3_1
    ·rw [if_pos c3] at H;have c3b0 : decide (0 ≤ x3_1) = true:=decide_eq_true c3;clear c3;obtain ⟨t238,A4,H⟩:=bnd H
     by_cases c5 : t238 = true
     ·subst c5
      rw [if_pos rfl] at H;have H':=Y H;clear H
      have p237 : 0 ≤ (x3_1 : Int):=of_decide_eq_true (y47_)
      have q237 : x3_1 < (l0.length : Int):=of_decide_eq_true (y47_)
      obtain ⟨ad237,A237_0,c237_0,e237,hx237_0,hl237_0,hi237_0⟩:=at_L3 HR0.out x3_1 p237 q237
      cases e237
      replace hx237_0:=clB HB hx237_0;have HR237_0:=Y hi237_0;have HC237_0:=Y hl237_0;clear hi237_0 hl237_0;replace p237:=eq_true p237;replace q237:=eq_true q237
      go_wp2_with (first | ((with_reducible refine gate_callee (f:=40) rfl ?_);refine goesM_ (some 14) Try.func40 #[.slice A237_0 (rd_L3 l0 x3_1).length c237_0] ?_;(with_reducible refine (spec_StmtsOk.calls k1 _ _ (rd_L3 l0 x3_1) true _ ?side1 ?side2 A4.out).mono ?_);(case side1=>exact y48_ HR237_0 HB);(case side2=>exact HC237_0.out);rintro e w6 ⟨rfl,hb⟩;refine ⟨_,rfl,?_⟩;replace HB:=Y (below_step (q0_ HB) hb);(try clear hb)))
      go_roundg k1
      case measure=>have:=HK1.out;omega
      case rel=>exact ⟨(wrap64 (x3_1 + 1)),(y45_),H',⟨by have:=HK1.out;omega⟩,⟨y46_ HB⟩⟩
     ·replace c5:=Bool.eq_false_iff.mpr c5;subst c5
      rw [if_neg (show ¬ (false = true) by decide)] at H;obtain rfl:=Option.some.inj H
      have p237 : 0 ≤ (x3_1 : Int):=of_decide_eq_true (y47_)
      have q237 : x3_1 < (l0.length : Int):=of_decide_eq_true (y47_)
      obtain ⟨ad237,A237_0,c237_0,e237,hx237_0,hl237_0,hi237_0⟩:=at_L3 HR0.out x3_1 p237 q237
      cases e237
      replace hx237_0:=clB HB hx237_0;have HR237_0:=Y hi237_0;have HC237_0:=Y hl237_0;clear hi237_0 hl237_0;replace p237:=eq_true p237;replace q237:=eq_true q237
      go_wp2_with (first | ((with_reducible refine gate_callee (f:=40) rfl ?_);refine goesM_ (some 14) Try.func40 #[.slice A237_0 (rd_L3 l0 x3_1).length c237_0] ?_;(with_reducible refine (spec_StmtsOk.calls k1 _ _ (rd_L3 l0 x3_1) false _ ?side1 ?side2 A4.out).mono ?_);(case side1=>exact y48_ HR237_0 HB);(case side2=>exact HC237_0.out);rintro e w7 ⟨rfl,hb⟩;refine ⟨_,rfl,?_⟩;replace HB:=Y (below_step (q0_ HB) hb);(try clear hb)))
      go_ret
      exact ⟨y49_,y46_ HB⟩
    ·rw [if_neg c3] at H
     exact absurd H (by simp)
   ·rw [if_neg c2] at H;have c2b0 : decide (x3_1 < (l0.length : Int)) = false:=decide_eq_false c2;clear c2
    by_cases c8 : (l0.length : Int) ≥ 1
    ·rw [if_pos c8] at H;have c8b0 : decide (1 ≤ (l0.length : Int)) = true:=decide_eq_true c8
     have c8b1 : decide (1 ≤ l0.length) = true:=decide_eq_true (by omega)
     clear c8;obtain rfl:=Option.some.inj H
     go_wp2
     go_ret
     exact ⟨y49_,y46_ HB⟩
    ·rw [if_neg c8] at H;have c8b0 : decide (1 ≤ (l0.length : Int)) = false:=decide_eq_false c8
     have c8b1 : decide (1 ≤ l0.length) = false:=decide_eq_false (by omega)
     clear c8;obtain rfl:=Option.some.inj H
     go_wp2
     go_ret
     exact ⟨y49_,y46_ HB⟩
end Go.Proofs.Ytfbocgagfodgnaa.P

namespace Go.Proofs.Ytfbocgagfodgnaa.P
open Go.RowKit Go.Proofs.YtfbocgagfodgnaaW.PrintWords Go.Proofs.YtfbocgagfodgnaaW.PrintLast Go.Proofs.YtfbocgagfodgnaaW.PrintMore
attribute [local go_sem] max2_int min2_int max_two min_two max_three min_three max_four min_four
set_option linter.unusedVariables false
set_option linter.unusedSimpArgs false
mutual
def spec_l2Copy.l0 : Nat → List (S69) → Int → List (S69) → Int → Option ((List (S69)))
 | 0,_,_,_,_=>none
 | k + 1,x0,x1,x5,x6=>if x6 < (x0.length : Int) then (spec_l2Copy.j1 k x0 x1 x5 x6 (decide (x1 > 0))) else (spec_l2Copy.j1 k x0 x1 x5 x6 false)
def spec_l2Copy.j1 : Nat → List (S69) → Int → List (S69) → Int → Bool → Option ((List (S69)))
 | 0,_,_,_,_,_=>none
 | k + 1,x0,x1,x5,x6,x16=>if x16 = true then (if 0 ≤ x6 then (if x6 < (x0.length : Int) then ((spec_l2Copy.f k ((rd_T69 x0 x6).f4) (wrap64 (x1 - 1))).bind fun t390=>((spec_l2Copy.f k ((rd_T69 x0 x6).f5) (wrap64 (x1 - 1))).bind fun t393=>(if x5.length < 1759218604441 then (spec_l2Copy.l0 k x0 x1 (x5 ++ [(⟨(rd_T69 x0 x6).f0,(rd_T69 x0 x6).f1,(rd_T69 x0 x6).f2,(rd_T69 x0 x6).f3,t390,t393⟩ : S69)]) (wrap64 (x6 + 1))) else (none)))) else (none)) else (none)) else (some x5)
def spec_l2Copy.f : Nat → List (S69) → Int → Option ((List (S69)))
 | 0,_,_=>none
 | k + 1,l0,a1=>spec_l2Copy.l0 k l0 a1 (([] : List (S69))) 0
end
private theorem y22_ {A Z : Prop} (a0 : Aside0 A) (h : A → Z:=by intro h0_;(with_reducible repeat (first | apply Kd.R_alloc | apply Kd.R_drewN | apply Kd.R_drew));exact h0_) : Z:=h a0.out
private theorem y23_ {A Z : Prop} (a0 : Aside0 A) (h : A → Z:=by intro h0_;repeat (first | (with_reducible first | exact h0_ | apply below_alloc | apply pw_below_drewN | apply below_drew1) | exact h0_)) : Z:=h a0.out
private theorem y24_ {A Z : Prop} (a0 : Aside0 A) (h : A → Z:=by intro h0_;(with_reducible repeat (first | refine blk_drewN ?_ _ | refine blk_drew ?_ | refine blk_alloc ?_ _));apply bp6_4_;(with_reducible repeat (first | refine blk_drewN ?_ _ | refine blk_drew ?_ | refine blk_alloc ?_ _));exact h0_) : Z:=h a0.out
set_option maxHeartbeats 8000000 in
set_option maxRecDepth 100000 in
theorem spec_l2Copy.calls (k : Nat) : ∀ (A0 : Option Addr) (c0 : Nat) (l0 : List (S69)) (a1 : Int) (r : List (S69)) (w : World) (hr0 : Kd.C k69 w A0 l0.length l0) (hc0 : l0.length ≤ c0) (h : spec_l2Copy.f k l0 a1 = some r),
  Calls Try.prog 42 #[.slice A0 l0.length c0,.int .i64 a1] w fun e w'=>∃ v0_ : Value,e = .returned (v0_) ∧ Kd.R k69 69 w' w.heap.size (fun _=>True) v0_ r ∧ Below w.heap.size w w':=by
 induction k using Nat.strongRecOn with
 | _ k ih =>
 intro A0 c0 l0 a1 r w hr0 hc0 h
 cases k with
 | zero=>exact absurd h (by simp [spec_l2Copy.f])
 | succ k =>
 simp only [spec_l2Copy.f] at h;have hu69:=Try.underlying69;have HR0:=Aside0.mk hr0;have HC0:=Aside0.mk hc0;clear hr0 hc0;have HB:=Aside0.mk (Below.refl w.heap.size w);have H : (spec_l2Copy.l0 k l0 a1 (([] : List (S69))) 0) = some r:=h;clear h;obtain ⟨y385,hy385⟩ : ∃ y_ : List (S69),y_ = (([] : List (S69))):=⟨_,rfl⟩
 replace H : (spec_l2Copy.l0 k l0 a1 y385 0) = some r:=by first | (rw [hy385];with_reducible exact H) | (have H2_:=(Option.bind_some _ _).symm.trans H;rw [hy385];with_reducible exact H2_) | (have H2_:=(Option.bind_some _ _).symm.trans H;with_reducible exact H2_) | with_reducible exact H | (rw [hy385];exact H) | exact H
 have Ny385:=Aside0.mk hy385;clear hy385;have H':=Aside0.mk H;clear H;go_enter Try.func42,Try.ntmps42
 go_wp2_with (first | ((with_reducible refine gate_dst (N:=8) rfl ?_);refine Kd.R_lit k69 _ 69 ?hg (N:=8) ?hd (xs:=([] : List (S69))) (inner:=[]) (ok:=fun _=>True) (okp:=fun _=>True) ?hr ?hp (fun _ hk=>hk) trivial (Below.refl _ _) (Nat.le_refl _) (by simp) ?_;(case hd=>rfl);(case hg=>rfl);(case hr=>first | (go_simp;done) | (go_simp;rfl));(case hp=>exact (Reps.none _ _));intro v386 w3 ho4 hb hg_ hnew_;clear hg_ hnew_;(first | rw [← Ny385.out] at ho4 | (simp only [Int.reduceToNat] at ho4;rw [← Ny385.out] at ho4));have n0_:=ap2 (Kd.R_lower ho4 (below_size (q0_ HB))) (below_step (q0_ HB) hb);clear HB;obtain ⟨HO387,HB⟩:=n0_;clear hb ho4))
 go_loopg [5,6] k (fun kq v5 v6 w'=>∃ (x5_1 : List (S69)) (x6_1 : Int),v6 = .int .i64 x6_1 ∧ Aside0 (spec_l2Copy.l0 kq l0 a1 x5_1 x6_1 = some r) ∧ Aside0 (kq ≤ k) ∧ Aside0 (Kd.R k69 69 w' w.heap.size (fun _=>True) v5 x5_1) ∧ Aside0 (Below w.heap.size w w'))
 case atStart=>exact ⟨(y385),(0),(by first | rfl | (simp;done) | (simp [*];done)),H',⟨Nat.le_refl _⟩,⟨y22_ HO387⟩,⟨y23_ HB⟩⟩
 case round =>
  clear H';obtain ⟨x5_1,x6_1,rfl,HA,HK1,HO_5,HB⟩:=hrel
  cases gk with
  | zero=>exact absurd HA.out (by simp [spec_l2Copy.l0])
  | succ k1 =>
   have H:=HA.out;clear HA;simp only [spec_l2Copy.l0] at H;have HC5:=Aside0.mk H;clear H
   go_upto_region 3 with (fail)
   go_cut [16] (fun v16 wc=>∃ (kq : Nat) (x16_4 : Bool),v16 = .bool x16_4 ∧ Aside0 (spec_l2Copy.j1 kq l0 a1 x5_1 x6_1 x16_4 = some r) ∧ Aside0 (kq ≤ k1) ∧ Aside0 (Kd.R k69 69 wc w.heap.size (fun _=>True) u5 x5_1) ∧ Aside0 (Below w.heap.size w wc))
   case first =>
    have H:=HC5.out;clear HC5
    by_cases c6 : x6_1 < (l0.length : Int)
    ·rw [if_pos c6] at H;have c6b0 : decide (x6_1 < (l0.length : Int)) = true:=decide_eq_true c6;clear c6
     (first | rw [c6b0] | (simp only [i64_w,i32_w];rw [c6b0]) | skip)
     have H':=Aside0.mk H;clear H
     go_wp2
     go_meet
     case rel=>exact ⟨_,(decide (a1 > 0)),(by first | rfl | (simp;done) | (simp [*];done)),H',⟨by have:=HK1.out;first | omega | exact Nat.le_refl _⟩,⟨y22_ HO_5⟩,⟨y23_ HB⟩⟩
    ·rw [if_neg c6] at H;have c6b0 : decide (x6_1 < (l0.length : Int)) = false:=decide_eq_false c6;clear c6
     (first | rw [c6b0] | (simp only [i64_w,i32_w];rw [c6b0]) | skip)
     have H':=Aside0.mk H;clear H
     go_wp2
     go_meet
     case rel=>exact ⟨_,(false),(by first | rfl | (simp;done) | (simp [*];done)),H',⟨by have:=HK1.out;first | omega | exact Nat.le_refl _⟩,⟨y22_ HO_5⟩,⟨y23_ HB⟩⟩
   case rest =>
    clear HC5;obtain ⟨kq,x16_4,rfl,HA,HJ4,HO_5,HB⟩:=hcut
    cases kq with
    | zero=>exact absurd HA.out (by simp [spec_l2Copy.j1])
    | succ kj4 =>
     have H:=HA.out;clear HA;simp only [spec_l2Copy.j1] at H
     by_cases c7 : x16_4 = true
     ·subst c7
      rw [if_pos rfl] at H
      by_cases c8 : 0 ≤ x6_1
      ·rw [if_pos c8] at H;have c8b0 : decide (0 ≤ x6_1) = true:=decide_eq_true c8;clear c8
       by_cases c9 : x6_1 < (l0.length : Int)
       ·rw [if_pos c9] at H;have c9b0 : decide (x6_1 < (l0.length : Int)) = true:=decide_eq_true c9;clear c9;obtain ⟨t390,A10,H⟩:=bnd H;obtain ⟨t393,A11,H⟩:=bnd H
        by_cases c12 : x5_1.length < 1759218604441
        ·rw [if_pos c12] at H;have LMc12:=Aside0.mk c12;clear c12;obtain ⟨y396,hy396⟩ : ∃ y_ : List (S69),y_ = (x5_1 ++ [(⟨(rd_T69 l0 x6_1).f0,(rd_T69 l0 x6_1).f1,(rd_T69 l0 x6_1).f2,(rd_T69 l0 x6_1).f3,t390,t393⟩ : S69)]):=⟨_,rfl⟩
         replace H : (spec_l2Copy.l0 kj4 l0 a1 y396 (wrap64 (x6_1 + 1))) = some r:=by first | (rw [hy396];with_reducible exact H) | (have H2_:=(Option.bind_some _ _).symm.trans H;rw [hy396];with_reducible exact H2_) | (have H2_:=(Option.bind_some _ _).symm.trans H;with_reducible exact H2_) | with_reducible exact H | (rw [hy396];exact H) | exact H
         have Ny396:=Aside0.mk hy396;clear hy396;have H':=Aside0.mk H;clear H
         have p388 : 0 ≤ (x6_1 : Int):=of_decide_eq_true (by first | (with_reducible assumption) | assumption)
         have q388 : x6_1 < (l0.length : Int):=of_decide_eq_true (by first | (with_reducible assumption) | assumption)
         obtain ⟨ad388,A388_4,c388_4,A388_5,c388_5,e388,hx388_0,hx388_1,hx388_2,hx388_3,hx388_4,hx388_5,hl388_4,hi388_4,hl388_5,hi388_5⟩:=at_T69 HR0.out x6_1 p388 q388
         cases e388
         replace hx388_0:=clB HB hx388_0;replace hx388_1:=clB HB hx388_1;replace hx388_2:=clB HB hx388_2;replace hx388_3:=clB HB hx388_3;replace hx388_4:=clB HB hx388_4;replace hx388_5:=clB HB hx388_5;have HR388_4:=Aside0.mk hi388_4;have HC388_4:=Aside0.mk hl388_4;clear hi388_4 hl388_4;have HR388_5:=Aside0.mk hi388_5;have HC388_5:=Aside0.mk hl388_5;clear hi388_5 hl388_5;replace p388:=eq_true p388;replace q388:=eq_true q388
         go_wp2_with (first | ((with_reducible refine gate_dst (N:=7) rfl ?_);refine box_event ?hg (N:=7) ?hd (cs:=#[.int .i64 0,.int .i64 0,.int .i64 0,.int .i64 0,.slice none 0 0,.slice none 0 0]) (t:=69) ?hr ?_;(case hd=>rfl);(case hg=>rfl);(case hr=>first | (go_simp;done) | (go_simp;rfl));intro gb389 hg w13 hbox hb;have n0_:=ap5 (Kd.R_below (Kd.R_elderB (q8_ HO_5) gb389 (Nat.le_of_eq hg.symm)) hb) (below_step (q0_ HB) hb) (hbox) ((by rw [hg];exact (below_size (q0_ HB)) : w.heap.size ≤ gb389)) ((by rw [hg];exact (below_size (q0_ HB)) : w.heap.size ≤ gb389));clear HO_5 HB;obtain ⟨HO_5,HB,BK389,GW389,GE389⟩:=n0_;clear hb hbox hg;obtain ⟨hcz14_0,hcz14_1,hcz14_2,hcz14_3,hcz14_4,hcz14_5,hfz14_0,hfz14_1,hfz14_2,hfz14_3,hfz14_4,hfz14_5⟩:=bz6_ BK389) | ((with_reducible refine gate_callee (f:=42) rfl ?_);refine goesM_ (some 27) Try.func42 #[.slice A388_4 ((rd_T69 l0 x6_1).f4).length c388_4,.int .i64 (wrap64 (a1 - 1))] ?_;(with_reducible refine (ih kj4 (by have:=HK1.out;have:=HJ4.out;omega) _ _ ((rd_T69 l0 x6_1).f4) (wrap64 (a1 - 1)) t390 _ ?side1 ?side2 A10.out).mono ?_);(case side1=>exact Kd.C_below HR388_4.out (q10_ HB GE389));(case side2=>exact HC388_4.out);rintro e w15 ⟨v391,rfl,ho0,hb⟩;refine ⟨_,rfl,?_⟩;have n0_:=ap4 (Kd.R_elder' (by (with_reducible repeat (first | apply Kd.R_alloc | apply Kd.R_drewN | apply Kd.R_drew));exact (Kd.R_mono (Kd.R_far (p:=⟨gb389,5,none⟩) (Kd.R_far (p:=⟨gb389,4,none⟩) (Kd.R_far (p:=⟨gb389,3,none⟩) (Kd.R_far (p:=⟨gb389,2,none⟩) (Kd.R_far (p:=⟨gb389,1,none⟩) (Kd.R_far (p:=⟨gb389,0,none⟩) (Kd.R_mono HO_5.out (fun k_ hk=>(⟨hk,hk.2⟩ : _ ∧ k_ ≠ gb389))) (fun _ hk=>hk.2) (.int .i64 ((rd_T69 l0 x6_1).f0))) (fun _ hk=>hk.2) (.int .i64 ((rd_T69 l0 x6_1).f1))) (fun _ hk=>hk.2) (.int .i64 ((rd_T69 l0 x6_1).f2))) (fun _ hk=>hk.2) (.int .i64 ((rd_T69 l0 x6_1).f3))) (fun _ hk=>hk.2) (.slice A388_4 ((rd_T69 l0 x6_1).f4).length c388_4)) (fun _ hk=>hk.2) (.slice A388_5 ((rd_T69 l0 x6_1).f5).length c388_5)) (fun _ h_=>h_.1))) (Kd.R_base ho0) hb) (Kd.R_lower (Kd.R_newB (Kd.R_new' ho0 (Kd.R_lt (by (with_reducible repeat (first | apply Kd.R_alloc | apply Kd.R_drewN | apply Kd.R_drew));exact (Kd.R_mono (Kd.R_far (p:=⟨gb389,5,none⟩) (Kd.R_far (p:=⟨gb389,4,none⟩) (Kd.R_far (p:=⟨gb389,3,none⟩) (Kd.R_far (p:=⟨gb389,2,none⟩) (Kd.R_far (p:=⟨gb389,1,none⟩) (Kd.R_far (p:=⟨gb389,0,none⟩) (Kd.R_mono HO_5.out (fun k_ hk=>(⟨hk,hk.2⟩ : _ ∧ k_ ≠ gb389))) (fun _ hk=>hk.2) (.int .i64 ((rd_T69 l0 x6_1).f0))) (fun _ hk=>hk.2) (.int .i64 ((rd_T69 l0 x6_1).f1))) (fun _ hk=>hk.2) (.int .i64 ((rd_T69 l0 x6_1).f2))) (fun _ hk=>hk.2) (.int .i64 ((rd_T69 l0 x6_1).f3))) (fun _ hk=>hk.2) (.slice A388_4 ((rd_T69 l0 x6_1).f4).length c388_4)) (fun _ hk=>hk.2) (.slice A388_5 ((rd_T69 l0 x6_1).f5).length c388_5)) (fun _ h_=>h_.1))))) (g:=gb389) (o:=.cells #[.int .i64 ((rd_T69 l0 x6_1).f0),.int .i64 ((rd_T69 l0 x6_1).f1),.int .i64 ((rd_T69 l0 x6_1).f2),.int .i64 ((rd_T69 l0 x6_1).f3),.slice A388_4 ((rd_T69 l0 x6_1).f4).length c388_4,.slice A388_5 ((rd_T69 l0 x6_1).f5).length c388_5] 69 (0,0)) (q9_ BK389)) (below_size (q10_ HB GE389))) (blk_below (g:=gb389) (o:=.cells #[.int .i64 ((rd_T69 l0 x6_1).f0),.int .i64 ((rd_T69 l0 x6_1).f1),.int .i64 ((rd_T69 l0 x6_1).f2),.int .i64 ((rd_T69 l0 x6_1).f3),.slice A388_4 ((rd_T69 l0 x6_1).f4).length c388_4,.slice A388_5 ((rd_T69 l0 x6_1).f5).length c388_5] 69 (0,0)) (q9_ BK389) hb) (below_step (q10_ HB GE389) hb);clear HO_5 BK389 HB;obtain ⟨HO_5,HO392,BK389,HB⟩:=n0_;(try clear hb);(try clear hk);(try clear ho0);obtain ⟨Ao16,co16,eo16⟩:=Kd.R_slice HO392.out;subst eo16;obtain ⟨hcz17_0,hcz17_1,hcz17_2,hcz17_3,hcz17_4,hcz17_5,hfz17_0,hfz17_1,hfz17_2,hfz17_3,hfz17_4,hfz17_5⟩:=bz6_ BK389) | ((with_reducible refine gate_callee (f:=42) rfl ?_);refine goesM_ (some 33) Try.func42 #[.slice A388_5 ((rd_T69 l0 x6_1).f5).length c388_5,.int .i64 (wrap64 (a1 - 1))] ?_;(with_reducible refine (ih kj4 (by have:=HK1.out;have:=HJ4.out;omega) _ _ ((rd_T69 l0 x6_1).f5) (wrap64 (a1 - 1)) t393 _ ?side1 ?side2 A11.out).mono ?_);(case side1=>exact Kd.C_below HR388_5.out (q10_ HB GE389));(case side2=>exact HC388_5.out);rintro e w18 ⟨v394,rfl,ho0,hb⟩;refine ⟨_,rfl,?_⟩;have n0_:=ap5 (Kd.R_elder' (by (with_reducible repeat (first | apply Kd.R_alloc | apply Kd.R_drewN | apply Kd.R_drew));exact (Kd.R_mono (Kd.R_far (p:=⟨gb389,4,none⟩) (Kd.R_mono HO_5.out (fun k_ hk=>(⟨hk,hk.1.2⟩ : _ ∧ k_ ≠ gb389))) (fun _ hk=>hk.2) (.slice Ao16 t390.length co16)) (fun _ h_=>h_.1))) (Kd.R_base ho0) hb) (Kd.R_elder' (by (with_reducible repeat (first | apply Kd.R_alloc | apply Kd.R_drewN | apply Kd.R_drew));exact (Kd.R_mono (Kd.R_far (p:=⟨gb389,4,none⟩) (Kd.R_mono HO392.out (fun k_ hk=>(⟨hk,hk.2⟩ : _ ∧ k_ ≠ gb389))) (fun _ hk=>hk.2) (.slice Ao16 t390.length co16)) (fun _ h_=>h_.1))) (Kd.R_base ho0) hb) (Kd.R_lower (Kd.R_newB (Kd.R_new' (Kd.R_new' ho0 (Kd.R_lt (by (with_reducible repeat (first | apply Kd.R_alloc | apply Kd.R_drewN | apply Kd.R_drew));exact (Kd.R_mono (Kd.R_far (p:=⟨gb389,4,none⟩) (Kd.R_mono HO_5.out (fun k_ hk=>(⟨hk,hk.1.2⟩ : _ ∧ k_ ≠ gb389))) (fun _ hk=>hk.2) (.slice Ao16 t390.length co16)) (fun _ h_=>h_.1))))) (Kd.R_lt (by (with_reducible repeat (first | apply Kd.R_alloc | apply Kd.R_drewN | apply Kd.R_drew));exact (Kd.R_mono (Kd.R_far (p:=⟨gb389,4,none⟩) (Kd.R_mono HO392.out (fun k_ hk=>(⟨hk,hk.2⟩ : _ ∧ k_ ≠ gb389))) (fun _ hk=>hk.2) (.slice Ao16 t390.length co16)) (fun _ h_=>h_.1))))) (g:=gb389) (o:=.cells #[.int .i64 ((rd_T69 l0 x6_1).f0),.int .i64 ((rd_T69 l0 x6_1).f1),.int .i64 ((rd_T69 l0 x6_1).f2),.int .i64 ((rd_T69 l0 x6_1).f3),.slice Ao16 t390.length co16,.slice A388_5 ((rd_T69 l0 x6_1).f5).length c388_5] 69 (0,0)) (y24_ BK389)) (below_size (q10_ HB GE389))) (blk_below (g:=gb389) (o:=.cells #[.int .i64 ((rd_T69 l0 x6_1).f0),.int .i64 ((rd_T69 l0 x6_1).f1),.int .i64 ((rd_T69 l0 x6_1).f2),.int .i64 ((rd_T69 l0 x6_1).f3),.slice Ao16 t390.length co16,.slice A388_5 ((rd_T69 l0 x6_1).f5).length c388_5] 69 (0,0)) (y24_ BK389) hb) (below_step (q10_ HB GE389) hb);clear HO_5 HO392 BK389 HB;obtain ⟨HO_5,HO392,HO395,BK389,HB⟩:=n0_;(try clear hb);(try clear hk);(try clear ho0);obtain ⟨Ao19,co19,eo19⟩:=Kd.R_slice HO395.out;subst eo19;obtain ⟨hcz20_0,hcz20_1,hcz20_2,hcz20_3,hcz20_4,hcz20_5,hfz20_0,hfz20_1,hfz20_2,hfz20_3,hfz20_4,hfz20_5⟩:=bz6_ BK389) | ((with_reducible refine gate_store (t:=49) (p:=34) rfl ?_);refine store_event (t:=49) (p:=34) (v:=?vo_w21) (w1:=(w18.setCell ⟨gb389,5,none⟩ (.slice Ao19 t393.length co19))) ?hg ?ho ?hn ?hr ?_;(case ho=>rfl);(case hg=>rfl);(case hn=>rfl);(case hr=>first | (go_simp;done) | (go_simp;rfl));intro w21 hw;have n0_ : Aside0 (Kd.R k69 69 w21 w.heap.size (fun k_=>some k_ ≠ (.slice Ao16 t390.length co16 : Value).ownBlock ∧ some k_ ≠ (.slice Ao19 t393.length co19 : Value).ownBlock ∧ k_ ≠ gb389) u5 x5_1):=⟨(by rw [hw];exact (by (with_reducible repeat (first | apply Kd.R_alloc | apply Kd.R_drewN | apply Kd.R_drew));exact Kd.R_mono (Kd.R_far (p:=⟨gb389,5,none⟩) (Kd.R_mono HO_5.out (fun k_ hk=>(⟨hk,hk.1.1.2⟩ : _ ∧ k_ ≠ gb389))) (fun _ hk=>hk.2) (.slice Ao19 t393.length co19)) (fun _ hk=>⟨hk.1.1.2,⟨hk.1.2,hk.1.1.1.2⟩⟩)))⟩;have n1_ : Aside0 (Kd.R k69 69 w21 w.heap.size (fun k_=>some k_ ≠ (u5 : Value).ownBlock ∧ some k_ ≠ (.slice Ao19 t393.length co19 : Value).ownBlock ∧ k_ ≠ gb389) (.slice Ao16 t390.length co16) t390):=⟨(by rw [hw];exact (by (with_reducible repeat (first | apply Kd.R_alloc | apply Kd.R_drewN | apply Kd.R_drew));exact Kd.R_mono (Kd.R_far (p:=⟨gb389,5,none⟩) (Kd.R_mono HO392.out (fun k_ hk=>(⟨hk,hk.1.2⟩ : _ ∧ k_ ≠ gb389))) (fun _ hk=>hk.2) (.slice Ao19 t393.length co19)) (fun _ hk=>⟨hk.1.1.1.2,⟨hk.1.2,hk.1.1.2⟩⟩)))⟩;have n2_ : Aside0 (Kd.R k69 69 w21 w.heap.size (fun k_=>some k_ ≠ (u5 : Value).ownBlock ∧ some k_ ≠ (.slice Ao16 t390.length co16 : Value).ownBlock ∧ k_ ≠ gb389) (.slice Ao19 t393.length co19) t393):=⟨(by rw [hw];exact (by (with_reducible repeat (first | apply Kd.R_alloc | apply Kd.R_drewN | apply Kd.R_drew));exact Kd.R_mono (Kd.R_far (p:=⟨gb389,5,none⟩) (Kd.R_mono HO395.out (fun k_ hk=>(⟨hk,hk.2⟩ : _ ∧ k_ ≠ gb389))) (fun _ hk=>hk.2) (.slice Ao19 t393.length co19)) (fun _ hk=>⟨hk.1.1.1.2,⟨hk.1.1.2,hk.1.2⟩⟩)))⟩;have n3_ : Aside0 (w21.heap[gb389]? = some (.cells #[.int .i64 ((rd_T69 l0 x6_1).f0),.int .i64 ((rd_T69 l0 x6_1).f1),.int .i64 ((rd_T69 l0 x6_1).f2),.int .i64 ((rd_T69 l0 x6_1).f3),.slice Ao16 t390.length co16,.slice Ao19 t393.length co19] 69 (0,0))):=⟨(by rw [hw];exact (by (with_reducible repeat (first | refine blk_drewN ?_ _ | refine blk_drew ?_ | refine blk_alloc ?_ _));apply bp6_5_;(with_reducible repeat (first | refine blk_drewN ?_ _ | refine blk_drew ?_ | refine blk_alloc ?_ _));exact BK389.out))⟩;have n4_ : Aside0 (Below w.heap.size w w21):=⟨(by rw [hw];exact (q10_ HB GE389))⟩;clear hw HO_5 HO392 HO395 BK389 HB;have HO_5:=n0_;have HO392:=n1_;have HO395:=n2_;have BK389:=n3_;have HB:=n4_;clear n0_ n1_ n2_ n3_ n4_;obtain ⟨hcz22_0,hcz22_1,hcz22_2,hcz22_3,hcz22_4,hcz22_5,hfz22_0,hfz22_1,hfz22_2,hfz22_3,hfz22_4,hfz22_5⟩:=bz6_ BK389) | ((with_reducible refine gate_builtin (b:=.append) (xs:=#[.tmp 35,.tmp 37]) rfl ?_);at_builtin;refine Kd.R_append k69 (w0:=w) w.heap.size rfl (.tmp 35) (.tmp 37) 49 69 (.agg #[(.int .i64 0),(.int .i64 0),(.int .i64 0),(.int .i64 0),(.slice none 0 0),(.slice none 0 0)]) 80 rfl Try.underlying49 info69 rfl (by decide) (by omega) u5 x5_1 (⟨(rd_T69 l0 x6_1).f0,(rd_T69 l0 x6_1).f1,(rd_T69 l0 x6_1).f2,(rd_T69 l0 x6_1).f3,t390,t393⟩ : S69) [.int .i64 ((rd_T69 l0 x6_1).f0),.int .i64 ((rd_T69 l0 x6_1).f1),.int .i64 ((rd_T69 l0 x6_1).f2),.int .i64 ((rd_T69 l0 x6_1).f3),.slice Ao16 t390.length co16,.slice Ao19 t393.length co19] (fun k_=>k_ ≠ gb389) (fun k_=>((fun k_=>k_ ≠ gb389)) k_ ∧ some k_ ≠ (u5 : Value).ownBlock) rfl rfl ?aP (fun _ hk=>hk) ?aF ?aO ?aB ?aS ?aL ?_;(case aP=>exact k69_mkM _ _ _ (⟨(rd_T69 l0 x6_1).f0,(rd_T69 l0 x6_1).f1,(rd_T69 l0 x6_1).f2,(rd_T69 l0 x6_1).f3,t390,t393⟩ : S69) (Kd.R_mono (HO392.out) (fun k_ hk=>⟨hk.2.2,hk.1⟩)) (Kd.R_mono (HO395.out) (fun k_ hk=>⟨hk.2.2,hk.1⟩)));(case aB=>exact q10_ HB GE389);(case aF=>exact (fun k_ hk=>Kd.freshB (g:=gb389) (o:=.cells #[.int .i64 ((rd_T69 l0 x6_1).f0),.int .i64 ((rd_T69 l0 x6_1).f1),.int .i64 ((rd_T69 l0 x6_1).f2),.int .i64 ((rd_T69 l0 x6_1).f3),.slice Ao16 t390.length co16,.slice Ao19 t393.length co19] 69 (0,0)) (q6_ BK389) k_ hk));(case aO=>exact (by (with_reducible repeat (first | apply Kd.R_alloc | apply Kd.R_drewN | apply Kd.R_drew));exact Kd.R_mono HO_5.out (fun _ hk=>hk.2.2)));(case aS=>exact (below_size (q10_ HB GE389)));(case aL=>have:=LMc12.out;omega);intro v397 w23 ho hb hg hat;rw [← Ny396.out] at ho;have n0_:=ap3 (blk_grown (g:=gb389) (o:=.cells #[.int .i64 ((rd_T69 l0 x6_1).f0),.int .i64 ((rd_T69 l0 x6_1).f1),.int .i64 ((rd_T69 l0 x6_1).f2),.int .i64 ((rd_T69 l0 x6_1).f3),.slice Ao16 t390.length co16,.slice Ao19 t393.length co19] 69 (0,0)) (q6_ BK389) hg (Kd.R_away HO_5.out (fun _ hk=>hk.2.2))) (hb) (ho);clear BK389 HB HO_5 HO392 HO395;obtain ⟨BK389,HB,HO398⟩:=n0_;clear ho hb hg hat))
         go_roundg kj4
         case measure=>have:=HK1.out;have:=HJ4.out;omega
         case rel=>exact ⟨(y396),(wrap64 (x6_1 + 1)),(by first | rfl | (simp;done) | (simp [*];done)),H',⟨by have:=HK1.out;have:=HJ4.out;omega⟩,⟨by (with_reducible repeat (first | apply Kd.R_alloc | apply Kd.R_drewN | apply Kd.R_drew));exact Kd.R_mono HO398.out (fun _ hk=>trivial)⟩,⟨by repeat (first | (with_reducible first | exact HB.out | apply below_alloc | apply pw_below_drewN | apply below_drew1 | refine below_set ?_ GE389.out) | exact HB.out)⟩⟩
        ·rw [if_neg c12] at H
         exact absurd H (by simp)
       ·rw [if_neg c9] at H
        exact absurd H (by simp)
      ·rw [if_neg c8] at H
       exact absurd H (by simp)
     ·replace c7:=Bool.eq_false_iff.mpr c7;subst c7
      rw [if_neg (show ¬ (false = true) by decide)] at H;obtain rfl:=Option.some.inj H
      go_wp2
      go_ret
      exact ⟨_,by first | rfl | (simp [errW_none,errW_some] <;> rfl) | (simp [*,errW_none,errW_some] <;> rfl),y22_ HO_5,y23_ HB⟩
end Go.Proofs.Ytfbocgagfodgnaa.P

namespace Go.Proofs.Ytfbocgagfodgnaa.P
open Go.RowKit Go.Proofs.YtfbocgagfodgnaaW.PrintWords Go.Proofs.YtfbocgagfodgnaaW.PrintLast Go.Proofs.YtfbocgagfodgnaaW.PrintMore
attribute [local go_sem] max2_int min2_int max_two min_two max_three min_three max_four min_four
set_option linter.unusedVariables false
set_option linter.unusedSimpArgs false
def spec_l1If.f (a0 : Bool) : Option (Int):=if a0 = true then (some 1) else (some 0)
set_option maxHeartbeats 8000000 in
set_option maxRecDepth 100000 in
theorem spec_l1If.calls (a0 : Bool) (r : Int) (w : World) (h : spec_l1If.f a0 = some r) :
  Calls Try.prog 17 #[.bool a0] w fun e w'=>e = .returned (.int .i64 r) ∧ Drawn0 w w':=by
 have H : (if a0 = true then (some 1) else (some 0)) = some r:=h;clear h
 by_cases c2 : a0 = true
 ·subst c2
  rw [if_pos rfl] at H;obtain rfl:=Option.some.inj H;go_enter Try.func17,Try.ntmps17
  go_wp2
  go_ret
  exact ⟨by first | rfl | (simp;done) | (simp [*];done),by repeat (first | exact Drawn0.refl _ | apply Drawn0.step)⟩
 ·replace c2:=Bool.eq_false_iff.mpr c2;subst c2
  rw [if_neg (show ¬ (false = true) by decide)] at H;obtain rfl:=Option.some.inj H;go_enter Try.func17,Try.ntmps17
  go_wp2
  go_ret
  exact ⟨by first | rfl | (simp;done) | (simp [*];done),by repeat (first | exact Drawn0.refl _ | apply Drawn0.step)⟩
def spec_NumCut.f (a0 : Int) : Option (Int):=if a0 > 999 then (some 999) else (if a0 < (-999) then (some (-999)) else (some a0))
set_option maxHeartbeats 8000000 in
set_option maxRecDepth 100000 in
theorem spec_NumCut.calls (a0 : Int) (r : Int) (w : World) (h : spec_NumCut.f a0 = some r) :
  Calls Try.prog 57 #[.int .i64 a0] w fun e w'=>e = .returned (.int .i64 r) ∧ Drawn0 w w':=by
 have H : (if a0 > 999 then (some 999) else (if a0 < (-999) then (some (-999)) else (some a0))) = some r:=h;clear h
 by_cases c2 : a0 > 999
 ·rw [if_pos c2] at H;have c2b0 : decide (999 < a0) = true:=decide_eq_true c2;clear c2;obtain rfl:=Option.some.inj H;go_enter Try.func57,Try.ntmps57
  go_wp2
  go_ret
  exact ⟨by first | rfl | (simp;done) | (simp [*];done),by repeat (first | exact Drawn0.refl _ | apply Drawn0.step)⟩
 ·rw [if_neg c2] at H;have c2b0 : decide (999 < a0) = false:=decide_eq_false c2;clear c2
  by_cases c3 : a0 < (-999)
  ·rw [if_pos c3] at H;have c3b0 : decide (a0 < (-999)) = true:=decide_eq_true c3;clear c3;obtain rfl:=Option.some.inj H;go_enter Try.func57,Try.ntmps57
   go_wp2
   go_ret
   exact ⟨by first | rfl | (simp;done) | (simp [*];done),by repeat (first | exact Drawn0.refl _ | apply Drawn0.step)⟩
  ·rw [if_neg c3] at H;have c3b0 : decide (a0 < (-999)) = false:=decide_eq_false c3;clear c3;obtain rfl:=Option.some.inj H;go_enter Try.func57,Try.ntmps57
   go_wp2
   go_ret
   exact ⟨by first | rfl | (simp;done) | (simp [*];done),by repeat (first | exact Drawn0.refl _ | apply Drawn0.step)⟩
def spec_NumDo.j0 : Nat → Int → Int → Int → Bool → Option (Int × Bool)
 | 0,_,_,_,_=>none
 | k + 1,x0,x1,x2,x15=>if x15 = true then (some (0,false)) else (if x0 = 1 then ((spec_NumCut.f (wrap64 (x1 + x2))).bind fun t284=>(some (t284,true))) else (if x0 = 2 then ((spec_NumCut.f (wrap64 (x1 - x2))).bind fun t285=>(some (t285,true))) else (if x0 = 3 then ((spec_NumCut.f (wrap64 (x1 * x2))).bind fun t286=>(some (t286,true))) else (if x0 = 4 then ((spec_l1If.f (decide (x1 < x2))).bind fun t287=>(some (t287,true))) else (if x0 = 5 then ((spec_l1If.f (x1 == x2)).bind fun t288=>(some (t288,true))) else (some (0,false)))))))
def spec_NumDo.f (k : Nat) (a0 : Int) (a1 : Int) (a2 : Int) : Option (Int × Bool):=(spec_NumOk.f a1).bind fun t282=>(if t282 = true then ((spec_NumOk.f a2).bind fun t283=>(spec_NumDo.j0 k a0 a1 a2 (!t283))) else (spec_NumDo.j0 k a0 a1 a2 true))
private theorem y50_ {Z : Prop} (h : Z:=by first | rfl | (simp;done) | (simp [*];done)) : Z:=h
set_option maxHeartbeats 8000000 in
set_option maxRecDepth 100000 in
theorem spec_NumDo.calls (k : Nat) (a0 : Int) (a1 : Int) (a2 : Int) (r1 : Int) (r2 : Bool) (w : World) (h : spec_NumDo.f k a0 a1 a2 = some (r1,r2)) :
  Calls Try.prog 54 #[.int .i64 a0,.int .i64 a1,.int .i64 a2] w fun e w'=>e = .returned (.tuple #[.int .i64 r1,.bool r2]) ∧ Drawn0 w w':=by
 have H : ((spec_NumOk.f a1).bind fun t282=>(if t282 = true then ((spec_NumOk.f a2).bind fun t283=>(spec_NumDo.j0 k a0 a1 a2 (!t283))) else (spec_NumDo.j0 k a0 a1 a2 true))) = some (r1,r2):=h;clear h;have HC4:=Aside0.mk H;clear H;go_enter Try.func54,Try.ntmps54
 go_upto_region 1 with (fail)
 go_cut [15] (fun v15 wc=>∃ (kq : Nat) (x15_3 : Bool),v15 = .bool x15_3 ∧ Aside0 (spec_NumDo.j0 kq a0 a1 a2 x15_3 = some (r1,r2)) ∧ Aside0 (kq ≤ k) ∧ Drawn0 w wc)
 case first =>
  have H:=HC4.out;clear HC4;obtain ⟨t282,A5,H⟩:=bnd H
  by_cases c6 : t282 = true
  ·subst c6
   rw [if_pos rfl] at H;obtain ⟨t283,A7,H⟩:=bnd H;have H':=Aside0.mk H;clear H
   go_wp2_with (first | ((with_reducible refine gate_callee (f:=56) rfl ?_);refine goesM_ (some 9) Try.func56 #[.int .i64 a1] ?_;(with_reducible refine (spec_NumOk.calls a1 true _ A5.out).mono ?_);rintro e w' ⟨rfl,⟨nd,rfl⟩⟩;refine ⟨_,rfl,?_⟩) | (go_at_call 56;(with_reducible refine (spec_NumOk.calls a2 t283 _ A7.out).mono ?_);rintro e w' ⟨rfl,⟨nd,rfl⟩⟩))
   go_meet
   case rel=>exact ⟨_,(!t283),(y50_),H',⟨by first | omega | exact Nat.le_refl _⟩,by repeat (first | exact Drawn0.refl _ | apply Drawn0.step)⟩
  ·replace c6:=Bool.eq_false_iff.mpr c6;subst c6
   rw [if_neg (show ¬ (false = true) by decide)] at H;have H':=Aside0.mk H;clear H
   go_wp2_with (first | ((with_reducible refine gate_callee (f:=56) rfl ?_);refine goesM_ (some 9) Try.func56 #[.int .i64 a1] ?_;(with_reducible refine (spec_NumOk.calls a1 false _ A5.out).mono ?_);rintro e w' ⟨rfl,⟨nd,rfl⟩⟩;refine ⟨_,rfl,?_⟩))
   go_meet
   case rel=>exact ⟨_,(true),(y50_),H',⟨by first | omega | exact Nat.le_refl _⟩,by repeat (first | exact Drawn0.refl _ | apply Drawn0.step)⟩
 case rest =>
  clear HC4;obtain ⟨kq,x15_3,rfl,HA,HJ3,⟨mc3,rfl⟩⟩:=hcut
  cases kq with
  | zero=>exact absurd HA.out (by simp [spec_NumDo.j0])
  | succ kj3 =>
   have H:=HA.out;clear HA;simp only [spec_NumDo.j0] at H
   by_cases c8 : x15_3 = true
   ·subst c8
    rw [if_pos rfl] at H;simp only [Option.some.injEq,Prod.mk.injEq] at H;obtain ⟨rfl,rfl⟩:=H
    go_wp2
    go_ret2
    exact ⟨y50_,by repeat (first | exact Drawn0.refl _ | apply Drawn0.step)⟩
   ·replace c8:=Bool.eq_false_iff.mpr c8;subst c8
    rw [if_neg (show ¬ (false = true) by decide)] at H
    by_cases c9 : a0 = 1
    ·rw [if_pos c9] at H;obtain ⟨c9b0,c9b1⟩:=eqT c9;clear c9;obtain ⟨t284,A10,H⟩:=bnd H;simp only [Option.some.injEq,Prod.mk.injEq] at H;obtain ⟨rfl,rfl⟩:=H
     go_wp2_with (first | ((with_reducible refine gate_callee (f:=57) rfl ?_);refine goesM_ (some 22) Try.func57 #[.int .i64 (wrap64 (a1 + a2))] ?_;(with_reducible refine (spec_NumCut.calls (wrap64 (a1 + a2)) t284 _ A10.out).mono ?_);rintro e w' ⟨rfl,⟨nd,rfl⟩⟩;refine ⟨_,rfl,?_⟩))
     go_ret2
     exact ⟨y50_,by repeat (first | exact Drawn0.refl _ | apply Drawn0.step)⟩
    ·rw [if_neg c9] at H;obtain ⟨c9b0,c9b1⟩:=eqF c9
     by_cases c11 : a0 = 2
     ·rw [if_pos c11] at H;obtain ⟨c11b0,c11b1⟩:=eqT c11;clear c11;obtain ⟨t285,A12,H⟩:=bnd H;simp only [Option.some.injEq,Prod.mk.injEq] at H;obtain ⟨rfl,rfl⟩:=H
      go_wp2_with (first | ((with_reducible refine gate_callee (f:=57) rfl ?_);refine goesM_ (some 28) Try.func57 #[.int .i64 (wrap64 (a1 - a2))] ?_;(with_reducible refine (spec_NumCut.calls (wrap64 (a1 - a2)) t285 _ A12.out).mono ?_);rintro e w' ⟨rfl,⟨nd,rfl⟩⟩;refine ⟨_,rfl,?_⟩))
      go_ret2
      exact ⟨y50_,by repeat (first | exact Drawn0.refl _ | apply Drawn0.step)⟩
     ·rw [if_neg c11] at H;obtain ⟨c11b0,c11b1⟩:=eqF c11
      by_cases c13 : a0 = 3
      ·rw [if_pos c13] at H;obtain ⟨c13b0,c13b1⟩:=eqT c13;clear c13;obtain ⟨t286,A14,H⟩:=bnd H;simp only [Option.some.injEq,Prod.mk.injEq] at H;obtain ⟨rfl,rfl⟩:=H
       go_wp2_with (first | ((with_reducible refine gate_callee (f:=57) rfl ?_);refine goesM_ (some 34) Try.func57 #[.int .i64 (wrap64 (a1 * a2))] ?_;(with_reducible refine (spec_NumCut.calls (wrap64 (a1 * a2)) t286 _ A14.out).mono ?_);rintro e w' ⟨rfl,⟨nd,rfl⟩⟩;refine ⟨_,rfl,?_⟩))
       go_ret2
       exact ⟨y50_,by repeat (first | exact Drawn0.refl _ | apply Drawn0.step)⟩
      ·rw [if_neg c13] at H;obtain ⟨c13b0,c13b1⟩:=eqF c13
       by_cases c15 : a0 = 4
       ·rw [if_pos c15] at H;obtain ⟨c15b0,c15b1⟩:=eqT c15;clear c15;obtain ⟨t287,A16,H⟩:=bnd H;simp only [Option.some.injEq,Prod.mk.injEq] at H;obtain ⟨rfl,rfl⟩:=H
        go_wp2_with (first | ((with_reducible refine gate_callee (f:=17) rfl ?_);refine goesM_ (some 40) Try.func17 #[.bool (decide (a1 < a2))] ?_;(with_reducible refine (spec_l1If.calls (decide (a1 < a2)) t287 _ A16.out).mono ?_);rintro e w' ⟨rfl,⟨nd,rfl⟩⟩;refine ⟨_,rfl,?_⟩))
        go_ret2
        exact ⟨y50_,by repeat (first | exact Drawn0.refl _ | apply Drawn0.step)⟩
       ·rw [if_neg c15] at H;obtain ⟨c15b0,c15b1⟩:=eqF c15
        by_cases c17 : a0 = 5
        ·rw [if_pos c17] at H;obtain ⟨c17b0,c17b1⟩:=eqT c17;clear c17;obtain ⟨t288,A18,H⟩:=bnd H;simp only [Option.some.injEq,Prod.mk.injEq] at H;obtain ⟨rfl,rfl⟩:=H
         go_wp2_with (first | ((with_reducible refine gate_callee (f:=17) rfl ?_);refine goesM_ (some 46) Try.func17 #[.bool (a1 == a2)] ?_;(with_reducible refine (spec_l1If.calls (a1 == a2) t288 _ A18.out).mono ?_);rintro e w' ⟨rfl,⟨nd,rfl⟩⟩;refine ⟨_,rfl,?_⟩))
         go_ret2
         exact ⟨y50_,by repeat (first | exact Drawn0.refl _ | apply Drawn0.step)⟩
        ·rw [if_neg c17] at H;obtain ⟨c17b0,c17b1⟩:=eqF c17;simp only [Option.some.injEq,Prod.mk.injEq] at H;obtain ⟨rfl,rfl⟩:=H
         go_wp2
         go_ret2
         exact ⟨y50_,by repeat (first | exact Drawn0.refl _ | apply Drawn0.step)⟩
end Go.Proofs.Ytfbocgagfodgnaa.P

namespace Go.Proofs.Ytfbocgagfodgnaa.P
open Go.RowKit
theorem drop_rd (l : List S69) {i : Nat} (h : i < l.length) : l.drop i = rd_T69 l (i : Int) :: l.drop (i + 1):=by
 rw [List.drop_eq_getElem_cons h]
 unfold rd_T69
 rw [Int.toNat_natCast,List.getD_eq_getElem?_getD,List.getElem?_eq_getElem h]
 rfl
end Go.Proofs.Ytfbocgagfodgnaa.P

namespace Go.Proofs.Ytfbocgagfodgnaa.P
open Go.RowKit Go.Proofs.YtfbocgagfodgnaaW.PrintWords Go.Proofs.YtfbocgagfodgnaaW.PrintLast Go.Proofs.YtfbocgagfodgnaaW.PrintMore
open Go.Proofs.YtfbocgagfodgnaaW.PrintWords renaming Aside0.mk → O
open Option renaming some.inj → J
attribute [local go_sem] max2_int min2_int max_two min_two max_three min_three max_four min_four
set_option linter.unusedVariables false
set_option linter.unusedSimpArgs false
mutual
def spec_l3Code.j0 : Nat → Int → Bool → List (S51) → List Int → List Int → List (List Int) → List (S38) → Option (Int)
 | 0,_,_,_,_,_,_,_=>none
 | k + 1,x1,x14,x240000,x240001,x240002,x240003,x240004=>if x14 = true then (some 3) else (if 0 ≤ x1 then (if x1 < (x240000.length : Int) then (if ((rd_T51 x240000 x1).f2) = 1 then (spec_l3Code.j1 k true x240000 x240001 x240002 x240003 x240004 ((rd_T51 x240000 x1).f0) ((rd_T51 x240000 x1).f1) ((rd_T51 x240000 x1).f2) ((rd_T51 x240000 x1).f3) ((rd_T51 x240000 x1).f4)) else (if ((rd_T51 x240000 x1).f2) = 2 then (if 0 ≤ ((rd_T51 x240000 x1).f4) then (if ((rd_T51 x240000 x1).f4) < (x240002.length : Int) then (spec_l3Code.j1 k (decide ((rd x240002 ((rd_T51 x240000 x1).f4)) > 0)) x240000 x240001 x240002 x240003 x240004 ((rd_T51 x240000 x1).f0) ((rd_T51 x240000 x1).f1) ((rd_T51 x240000 x1).f2) ((rd_T51 x240000 x1).f3) ((rd_T51 x240000 x1).f4)) else (none)) else (none)) else (spec_l3Code.j1 k false x240000 x240001 x240002 x240003 x240004 ((rd_T51 x240000 x1).f0) ((rd_T51 x240000 x1).f1) ((rd_T51 x240000 x1).f2) ((rd_T51 x240000 x1).f3) ((rd_T51 x240000 x1).f4)))) else (none)) else (none))
def spec_l3Code.j1 : Nat → Bool → List (S51) → List Int → List Int → List (List Int) → List (S38) → List Int → List (S69) → Int → Int → Int → Option (Int)
 | 0,_,_,_,_,_,_,_,_,_,_,_=>none
 | k + 1,x20,x240000,x240001,x240002,x240003,x240004,x242000,x242001,x242002,x242003,x242004=>if x20 = true then (some 2) else (if x242002 = 2 then (some 0) else (if (x242001.length : Int) = 0 then (some 1) else (if 0 < (x242001.length : Int) then (if ((rd_T69 x242001 0).f0) = 8 then (if 0 ≤ ((rd_T69 x242001 0).f1) then (if ((rd_T69 x242001 0).f1) < (x240002.length : Int) then (if (rd x240002 ((rd_T69 x242001 0).f1)) > 0 then (some 2) else (some 0)) else (none)) else (none)) else (some 0)) else (none))))
end
def spec_l3Code.f (k : Nat) (l0_0 : List (S51)) (l0_1 : List Int) (l0_2 : List Int) (l0_3 : List (List Int)) (l0_4 : List (S38)) (a1 : Int) : Option (Int):=if a1 < 0 then (spec_l3Code.j0 k a1 true l0_0 l0_1 l0_2 l0_3 l0_4) else (spec_l3Code.j0 k a1 (decide (a1 ≥ (l0_0.length : Int))) l0_0 l0_1 l0_2 l0_3 l0_4)
theorem spec_l3Code.mono_l : ∀ k,(∀ y0 y1 y2 y3 y4 y5 y6,LeO (spec_l3Code.j0 k y0 y1 y2 y3 y4 y5 y6) (spec_l3Code.j0 (k + 1) y0 y1 y2 y3 y4 y5 y6)) ∧ (∀ y0 y1 y2 y3 y4 y5 y6 y7 y8 y9 y10,LeO (spec_l3Code.j1 k y0 y1 y2 y3 y4 y5 y6 y7 y8 y9 y10) (spec_l3Code.j1 (k + 1) y0 y1 y2 y3 y4 y5 y6 y7 y8 y9 y10))
 | 0=>⟨fun _ _ _ _ _ _ _ r h=>by simp [spec_l3Code.j0] at h,fun _ _ _ _ _ _ _ _ _ _ _ r h=>by simp [spec_l3Code.j1] at h⟩
 | k + 1=>by
  obtain ⟨ih0,ih1⟩:=spec_l3Code.mono_l k
  refine ⟨?_,?_⟩
  ·intro y0 y1 y2 y3 y4 y5 y6
   unfold spec_l3Code.j0
   repeat' first
   | (with_reducible exact ih0 _ _ _ _ _ _ _)
   | (with_reducible exact ih1 _ _ _ _ _ _ _ _ _ _ _)
   | (with_reducible exact LeO.refl _)
   | (with_reducible exact LeO.none _)
   | (with_reducible refine LeO.ite ?_ ?_)
   | (with_reducible refine LeO.bind ?_ (fun _=>?_))
   | exact ih0 _ _ _ _ _ _ _
   | exact ih1 _ _ _ _ _ _ _ _ _ _ _
   | exact LeO.none _
   | refine LeO.ite ?_ ?_
   | refine LeO.bind ?_ (fun _=>?_)
  ·intro y0 y1 y2 y3 y4 y5 y6 y7 y8 y9 y10
   unfold spec_l3Code.j1
   repeat' first
   | (with_reducible exact ih0 _ _ _ _ _ _ _)
   | (with_reducible exact ih1 _ _ _ _ _ _ _ _ _ _ _)
   | (with_reducible exact LeO.refl _)
   | (with_reducible exact LeO.none _)
   | (with_reducible refine LeO.ite ?_ ?_)
   | (with_reducible refine LeO.bind ?_ (fun _=>?_))
   | exact ih0 _ _ _ _ _ _ _
   | exact ih1 _ _ _ _ _ _ _ _ _ _ _
   | exact LeO.none _
   | refine LeO.ite ?_ ?_
   | refine LeO.bind ?_ (fun _=>?_)
theorem spec_l3Code.mono : ∀ a0 a1 a2 a3 a4 a5 k,LeO (spec_l3Code.f k a0 a1 a2 a3 a4 a5) (spec_l3Code.f (k + 1) a0 a1 a2 a3 a4 a5):=by
 intro a0 a1 a2 a3 a4 a5 k
 obtain ⟨ih0,ih1⟩:=spec_l3Code.mono_l k;unfold spec_l3Code.f
 repeat' first
   | (with_reducible exact ih0 _ _ _ _ _ _ _)
   | (with_reducible exact ih1 _ _ _ _ _ _ _ _ _ _ _)
   | (with_reducible exact LeO.refl _)
   | (with_reducible exact LeO.none _)
   | (with_reducible refine LeO.ite ?_ ?_)
   | (with_reducible refine LeO.bind ?_ (fun _=>?_))
   | exact ih0 _ _ _ _ _ _ _
   | exact ih1 _ _ _ _ _ _ _ _ _ _ _
   | exact LeO.none _
   | refine LeO.ite ?_ ?_
   | refine LeO.bind ?_ (fun _=>?_)
private theorem y35_ {A B Z : Prop} (a0 : Aside0 A) (a1 : Aside0 B) (h : A → B → Z:=by intro h0_ h1_;repeat (first | (with_reducible first | exact h0_ | apply below_alloc | apply pw_below_drewN | apply below_drew1 | refine below_set ?_ h1_) | exact h0_)) : Z:=h a0.out a1.out
private theorem y36_ {Z : Prop} (h : Z:=by first | rfl | (simp [errW_none,errW_some] <;> rfl) | (simp [*,errW_none,errW_some] <;> rfl)) : Z:=h
private theorem y37_ {Z : Prop} (h : Z:=by first | (with_reducible assumption) | assumption) : Z:=h
private theorem y38_ {A B Z : Prop} (a0 : Aside0 A) (a1 : Aside0 B) (h : A → B → Z:=by intro h0_ h1_;(with_reducible repeat (first | refine blk_drewN ?_ _ | refine blk_drew ?_ | refine blk_alloc ?_ _));refine blk_far ?_ h0_ _;(with_reducible repeat (first | refine blk_drewN ?_ _ | refine blk_drew ?_ | refine blk_alloc ?_ _));refine blk_far ?_ h0_ _;(with_reducible repeat (first | refine blk_drewN ?_ _ | refine blk_drew ?_ | refine blk_alloc ?_ _));refine blk_far ?_ h0_ _;(with_reducible repeat (first | refine blk_drewN ?_ _ | refine blk_drew ?_ | refine blk_alloc ?_ _));refine blk_far ?_ h0_ _;(with_reducible repeat (first | refine blk_drewN ?_ _ | refine blk_drew ?_ | refine blk_alloc ?_ _));refine blk_far ?_ h0_ _;(with_reducible repeat (first | refine blk_drewN ?_ _ | refine blk_drew ?_ | refine blk_alloc ?_ _));exact h1_) : Z:=h a0.out a1.out
private theorem y39_ {A Z : Prop} (a0 : Aside0 A) (h : A → Z:=by intro h0_;(with_reducible repeat (first | refine blk_drewN ?_ _ | refine blk_drew ?_ | refine blk_alloc ?_ _));apply bp5_4_;(with_reducible repeat (first | refine blk_drewN ?_ _ | refine blk_drew ?_ | refine blk_alloc ?_ _));apply bp5_3_;(with_reducible repeat (first | refine blk_drewN ?_ _ | refine blk_drew ?_ | refine blk_alloc ?_ _));apply bp5_2_;(with_reducible repeat (first | refine blk_drewN ?_ _ | refine blk_drew ?_ | refine blk_alloc ?_ _));apply bp5_1_;(with_reducible repeat (first | refine blk_drewN ?_ _ | refine blk_drew ?_ | refine blk_alloc ?_ _));apply bp5_0_;(with_reducible repeat (first | refine blk_drewN ?_ _ | refine blk_drew ?_ | refine blk_alloc ?_ _));exact h0_) : Z:=h a0.out
private theorem y40_ {A B C Z : Prop} (a0 : Aside0 A) (a1 : Aside0 B) (a2 : Aside0 C) (h : A → B → C → Z:=by intro h0_ h1_ h2_;repeat (first | (with_reducible first | exact h0_ | apply below_alloc | apply pw_below_drewN | apply below_drew1 | refine below_set ?_ h1_ | refine below_set ?_ h2_) | exact h0_)) : Z:=h a0.out a1.out a2.out
set_option maxHeartbeats 8000000 in
set_option maxRecDepth 100000 in
theorem spec_l3Code.calls (k : Nat) (A0_0 : Option Addr) (c0_0 : Nat) (l0_0 : List (S51)) (A0_1 : Option Addr) (c0_1 : Nat) (l0_1 : List Int) (A0_2 : Option Addr) (c0_2 : Nat) (l0_2 : List Int) (A0_3 : Option Addr) (c0_3 : Nat) (l0_3 : List (List Int)) (A0_4 : Option Addr) (c0_4 : Nat) (l0_4 : List (S38)) (a1 : Int) (r : Int) (w : World) (hr0_0 : Kd.C k51 w A0_0 l0_0.length l0_0) (hc0_0 : l0_0.length ≤ c0_0) (hr0_1 : Kd.C (Kd.int .i64) w A0_1 l0_1.length l0_1) (hc0_1 : l0_1.length ≤ c0_1) (hr0_2 : Kd.C (Kd.int .i64) w A0_2 l0_2.length l0_2) (hc0_2 : l0_2.length ≤ c0_2) (hr0_3 : Kd.C (Kd.slice 3 (Kd.int .i64)) w A0_3 l0_3.length l0_3) (hc0_3 : l0_3.length ≤ c0_3) (hr0_4 : Kd.C k38 w A0_4 l0_4.length l0_4) (hc0_4 : l0_4.length ≤ c0_4) (h : spec_l3Code.f k l0_0 l0_1 l0_2 l0_3 l0_4 a1 = some r) :
  Calls Try.prog 30 #[.agg #[.slice A0_0 l0_0.length c0_0,.slice A0_1 l0_1.length c0_1,.slice A0_2 l0_2.length c0_2,.slice A0_3 l0_3.length c0_3,.slice A0_4 l0_4.length c0_4],.int .i64 a1] w fun e w'=>e = .returned (.int .i64 r) ∧ Below w.heap.size w w':=by
 have hu33:=Try.underlying33;have hu51:=Try.underlying51;have HR0_0:=O hr0_0;have HC0_0:=O hc0_0;clear hr0_0 hc0_0;have HR0_1:=O hr0_1;have HC0_1:=O hc0_1;clear hr0_1 hc0_1;have HR0_2:=O hr0_2;have HC0_2:=O hc0_2;clear hr0_2 hc0_2;have HR0_3:=O hr0_3;have HC0_3:=O hc0_3;clear hr0_3 hc0_3;have HR0_4:=O hr0_4;have HC0_4:=O hc0_4;clear hr0_4 hc0_4;have HB:=O (Below.refl w.heap.size w);have H : (if a1 < 0 then (spec_l3Code.j0 k a1 true l0_0 l0_1 l0_2 l0_3 l0_4) else (spec_l3Code.j0 k a1 (decide (a1 ≥ (l0_0.length : Int))) l0_0 l0_1 l0_2 l0_3 l0_4)) = some r:=h;clear h;have HC3:=O H;clear H;go_enter Try.func30,Try.ntmps30
 go_upto_region 1 with (first | ((with_reducible refine gate_dst (N:=2) rfl ?_);(try (refine gate_guard (by rfl) ?_;dsimp only));refine box_event ?hg (N:=2) ?hd (cs:=#[.slice A0_0 l0_0.length c0_0,.slice A0_1 l0_1.length c0_1,.slice A0_2 l0_2.length c0_2,.slice A0_3 l0_3.length c0_3,.slice A0_4 l0_4.length c0_4]) (t:=33) ?hr ?_;(case hd=>rfl);(case hg=>rfl);(case hr=>first | (go_simp;done) | (go_simp;rfl));intro gb239 hg w4 hbox hb;have n0_:=bxA hb hg hbox (q0_ HB);clear HB;obtain ⟨HB,BK239,GW239,GE239⟩:=n0_;clear hb hbox hg))
 repeat (go_quiet (first | ((with_reducible refine gate_dst (N:=2) rfl ?_);(try (refine gate_guard (by rfl) ?_;dsimp only));refine box_event ?hg (N:=2) ?hd (cs:=#[.slice A0_0 l0_0.length c0_0,.slice A0_1 l0_1.length c0_1,.slice A0_2 l0_2.length c0_2,.slice A0_3 l0_3.length c0_3,.slice A0_4 l0_4.length c0_4]) (t:=33) ?hr ?_;(case hd=>rfl);(case hg=>rfl);(case hr=>first | (go_simp;done) | (go_simp;rfl));intro gb239 hg w4 hbox hb;have n0_:=bxA hb hg hbox (q0_ HB);clear HB;obtain ⟨HB,BK239,GW239,GE239⟩:=n0_;clear hb hbox hg));go_upto_region 1 with (first | ((with_reducible refine gate_dst (N:=2) rfl ?_);(try (refine gate_guard (by rfl) ?_;dsimp only));refine box_event ?hg (N:=2) ?hd (cs:=#[.slice A0_0 l0_0.length c0_0,.slice A0_1 l0_1.length c0_1,.slice A0_2 l0_2.length c0_2,.slice A0_3 l0_3.length c0_3,.slice A0_4 l0_4.length c0_4]) (t:=33) ?hr ?_;(case hd=>rfl);(case hg=>rfl);(case hr=>first | (go_simp;done) | (go_simp;rfl));intro gb239 hg w4 hbox hb;have n0_:=bxA hb hg hbox (q0_ HB);clear HB;obtain ⟨HB,BK239,GW239,GE239⟩:=n0_;clear hb hbox hg)))
 (try simp only [Act.put,List.setIfInBounds_toArray,List.set_cons_zero,List.set_cons_succ])
 go_cut [14] (fun v14 wc=>∃ (kq : Nat) (x14_2 : Bool),v14 = .bool x14_2 ∧ Aside0 (spec_l3Code.j0 kq a1 x14_2 l0_0 l0_1 l0_2 l0_3 l0_4 = some r) ∧ Aside0 (kq ≤ k) ∧ Aside0 (wc.heap[gb239]? = some (.cells #[(.slice A0_0 l0_0.length c0_0),(.slice A0_1 l0_1.length c0_1),(.slice A0_2 l0_2.length c0_2),(.slice A0_3 l0_3.length c0_3),(.slice A0_4 l0_4.length c0_4)] 33 (0,0))) ∧ Aside0 (Below w.heap.size w wc))
 case first =>
  have H:=HC3.out;clear HC3
  by_cases c5 : a1 < 0
  ·rw [if_pos c5] at H;have c5b0 : decide (a1 < 0) = true:=decide_eq_true c5;clear c5
   (first | rw [c5b0] | (simp only [i64_w,i32_w];rw [c5b0]) | skip)
   have H':=O H;clear H
   go_wp2
   repeat (go_quiet (fail);try go_wp2)
   go_meet
   case rel=>exact ⟨_,(true),(by first | rfl | (simp;done) | (simp [*];done)),H',⟨by first | omega | exact Nat.le_refl _⟩,⟨by (with_reducible repeat (first | refine blk_drewN ?_ _ | refine blk_drew ?_ | refine blk_alloc ?_ _));exact BK239.out⟩,⟨y35_ HB GE239⟩⟩
  ·rw [if_neg c5] at H;have c5b0 : decide (a1 < 0) = false:=decide_eq_false c5;clear c5
   (first | rw [c5b0] | (simp only [i64_w,i32_w];rw [c5b0]) | skip)
   have H':=O H;clear H;obtain ⟨hcz6_0,hcz6_1,hcz6_2,hcz6_3,hcz6_4,hfz6_0,hfz6_1,hfz6_2,hfz6_3,hfz6_4⟩:=bz5_ BK239
   go_wp2
   repeat (go_quiet (fail);try go_wp2)
   go_meet
   case rel=>exact ⟨_,(decide (a1 ≥ (l0_0.length : Int))),(by first | rfl | (simp;done) | (simp [*];done)),H',⟨by first | omega | exact Nat.le_refl _⟩,⟨by (with_reducible repeat (first | refine blk_drewN ?_ _ | refine blk_drew ?_ | refine blk_alloc ?_ _));exact BK239.out⟩,⟨y35_ HB GE239⟩⟩
 case rest =>
  clear HC3;obtain ⟨kq,x14_2,rfl,HA,HJ2,BK239,HB⟩:=hcut
  cases kq with
  | zero=>exact absurd HA.out (by simp [spec_l3Code.j0])
  | succ kj2 =>
   have H:=HA.out;clear HA;simp only [spec_l3Code.j0] at H
   by_cases c7 : x14_2 = true
   ·subst c7
    rw [if_pos rfl] at H;obtain rfl:=J H
    go_wp2
    repeat (go_quiet (fail);try go_wp2)
    go_ret
    exact ⟨y36_,y35_ HB GE239⟩
   ·replace c7:=Bool.eq_false_iff.mpr c7;subst c7
    rw [if_neg (show ¬ (false = true) by decide)] at H
    by_cases c8 : 0 ≤ a1
    ·rw [if_pos c8] at H;have c8b0 : decide (0 ≤ a1) = true:=decide_eq_true c8;clear c8
     by_cases c9 : a1 < (l0_0.length : Int)
     ·rw [if_pos c9] at H;have c9b0 : decide (a1 < (l0_0.length : Int)) = true:=decide_eq_true c9;clear c9;have HC10:=O H;clear H;obtain ⟨hcz11_0,hcz11_1,hcz11_2,hcz11_3,hcz11_4,hfz11_0,hfz11_1,hfz11_2,hfz11_3,hfz11_4⟩:=bz5_ BK239
      have p240 : 0 ≤ (a1 : Int):=of_decide_eq_true (y37_)
      have q240 : a1 < (l0_0.length : Int):=of_decide_eq_true (y37_)
      obtain ⟨ad240,A240_0,c240_0,A240_1,c240_1,e240,hx240_0,hx240_1,hx240_2,hx240_3,hx240_4,hl240_0,hi240_0,hl240_1,hi240_1⟩:=at_T51 HR0_0.out a1 p240 q240
      cases e240
      replace hx240_0:=clB HB hx240_0;replace hx240_1:=clB HB hx240_1;replace hx240_2:=clB HB hx240_2;replace hx240_3:=clB HB hx240_3;replace hx240_4:=clB HB hx240_4;have HR240_0:=O hi240_0;have HC240_0:=O hl240_0;clear hi240_0 hl240_0;have HR240_1:=O hi240_1;have HC240_1:=O hl240_1;clear hi240_1 hl240_1;replace p240:=eq_true p240;replace q240:=eq_true q240
      go_upto_region 4 with (first | ((with_reducible refine gate_dst (N:=5) rfl ?_);(try (refine gate_guard (by rfl) ?_;dsimp only));refine box_event ?hg (N:=5) ?hd (cs:=#[.slice none 0 0,.slice none 0 0,.int .i64 0,.int .i64 0,.int .i64 0]) (t:=51) ?hr ?_;(case hd=>rfl);(case hg=>rfl);(case hr=>first | (go_simp;done) | (go_simp;rfl));intro gb241 hg w12 hbox hb;have n0_:=bxB (b:=gb239) (.cells #[.slice (some ad240) l0_0.length c0_0,.slice A0_1 l0_1.length c0_1,.slice A0_2 l0_2.length c0_2,.slice A0_3 l0_3.length c0_3,.slice A0_4 l0_4.length c0_4] 33 (0,0)) hb hg hbox (q10_ HB GE239) (q6_ BK239);clear BK239 HB;obtain ⟨BK239,HB,BK241,GW241,GE241,NB239_241,NB241_239⟩:=n0_;clear hb hbox hg;have hnb13:=NB241_239.out;have hnc13:=NB239_241.out;obtain ⟨hcz14_0,hcz14_1,hcz14_2,hcz14_3,hcz14_4,hfz14_0,hfz14_1,hfz14_2,hfz14_3,hfz14_4⟩:=bz5_ BK241))
      repeat (go_quiet (first | ((with_reducible refine gate_dst (N:=5) rfl ?_);(try (refine gate_guard (by rfl) ?_;dsimp only));refine box_event ?hg (N:=5) ?hd (cs:=#[.slice none 0 0,.slice none 0 0,.int .i64 0,.int .i64 0,.int .i64 0]) (t:=51) ?hr ?_;(case hd=>rfl);(case hg=>rfl);(case hr=>first | (go_simp;done) | (go_simp;rfl));intro gb241 hg w12 hbox hb;have n0_:=bxB (b:=gb239) (.cells #[.slice (some ad240) l0_0.length c0_0,.slice A0_1 l0_1.length c0_1,.slice A0_2 l0_2.length c0_2,.slice A0_3 l0_3.length c0_3,.slice A0_4 l0_4.length c0_4] 33 (0,0)) hb hg hbox (q10_ HB GE239) (q6_ BK239);clear BK239 HB;obtain ⟨BK239,HB,BK241,GW241,GE241,NB239_241,NB241_239⟩:=n0_;clear hb hbox hg;have hnb13:=NB241_239.out;have hnc13:=NB239_241.out;obtain ⟨hcz14_0,hcz14_1,hcz14_2,hcz14_3,hcz14_4,hfz14_0,hfz14_1,hfz14_2,hfz14_3,hfz14_4⟩:=bz5_ BK241));go_upto_region 4 with (first | ((with_reducible refine gate_dst (N:=5) rfl ?_);(try (refine gate_guard (by rfl) ?_;dsimp only));refine box_event ?hg (N:=5) ?hd (cs:=#[.slice none 0 0,.slice none 0 0,.int .i64 0,.int .i64 0,.int .i64 0]) (t:=51) ?hr ?_;(case hd=>rfl);(case hg=>rfl);(case hr=>first | (go_simp;done) | (go_simp;rfl));intro gb241 hg w12 hbox hb;have n0_:=bxB (b:=gb239) (.cells #[.slice (some ad240) l0_0.length c0_0,.slice A0_1 l0_1.length c0_1,.slice A0_2 l0_2.length c0_2,.slice A0_3 l0_3.length c0_3,.slice A0_4 l0_4.length c0_4] 33 (0,0)) hb hg hbox (q10_ HB GE239) (q6_ BK239);clear BK239 HB;obtain ⟨BK239,HB,BK241,GW241,GE241,NB239_241,NB241_239⟩:=n0_;clear hb hbox hg;have hnb13:=NB241_239.out;have hnc13:=NB239_241.out;obtain ⟨hcz14_0,hcz14_1,hcz14_2,hcz14_3,hcz14_4,hfz14_0,hfz14_1,hfz14_2,hfz14_3,hfz14_4⟩:=bz5_ BK241)))
      (try simp only [Act.put,List.setIfInBounds_toArray,List.set_cons_zero,List.set_cons_succ])
      go_cut [20] (fun v20 wc=>∃ (kq : Nat) (x20_9 : Bool),v20 = .bool x20_9 ∧ Aside0 (spec_l3Code.j1 kq x20_9 l0_0 l0_1 l0_2 l0_3 l0_4 ((rd_T51 l0_0 a1).f0) ((rd_T51 l0_0 a1).f1) ((rd_T51 l0_0 a1).f2) ((rd_T51 l0_0 a1).f3) ((rd_T51 l0_0 a1).f4) = some r) ∧ Aside0 (kq ≤ kj2) ∧ Aside0 (wc.heap[gb239]? = some (.cells #[(.slice (some ad240) l0_0.length c0_0),(.slice A0_1 l0_1.length c0_1),(.slice A0_2 l0_2.length c0_2),(.slice A0_3 l0_3.length c0_3),(.slice A0_4 l0_4.length c0_4)] 33 (0,0))) ∧ Aside0 (wc.heap[gb241]? = some (.cells #[(.slice A240_0 ((rd_T51 l0_0 a1).f0).length c240_0),(.slice A240_1 ((rd_T51 l0_0 a1).f1).length c240_1),.int .i64 ((rd_T51 l0_0 a1).f2),.int .i64 ((rd_T51 l0_0 a1).f3),.int .i64 ((rd_T51 l0_0 a1).f4)] 51 (0,0))) ∧ Aside0 (Below w.heap.size w wc))
      case first =>
       have H:=HC10.out;clear HC10
       by_cases c15 : ((rd_T51 l0_0 a1).f2) = 1
       ·rw [if_pos c15] at H;obtain ⟨c15b0,c15b1⟩:=eqT c15;clear c15
        (first | rw [c15b0] | (simp only [i64_w,i32_w];rw [c15b0]) | skip)
        have H':=O H;clear H;have hnb16:=NB241_239.out;have hnc16:=NB239_241.out;obtain ⟨hcz17_0,hcz17_1,hcz17_2,hcz17_3,hcz17_4,hfz17_0,hfz17_1,hfz17_2,hfz17_3,hfz17_4⟩:=bz5_ BK241
        go_wp2
        repeat (go_quiet (fail);try go_wp2)
        go_meet
        case rel=>exact ⟨_,(true),(by first | rfl | (simp;done) | (simp [*];done)),H',⟨by have:=HJ2.out;first | omega | exact Nat.le_refl _⟩,⟨y38_ NB239_241 BK239⟩,⟨y39_ BK241⟩,⟨y40_ HB GE239 GE241⟩⟩
       ·rw [if_neg c15] at H;obtain ⟨c15b0,c15b1⟩:=eqF c15
        (first | rw [c15b0] | (simp only [i64_w,i32_w];rw [c15b0]) | skip)
        by_cases c18 : ((rd_T51 l0_0 a1).f2) = 2
        ·rw [if_pos c18] at H;obtain ⟨c18b0,c18b1⟩:=eqT c18;clear c18
         by_cases c19 : 0 ≤ ((rd_T51 l0_0 a1).f4)
         ·rw [if_pos c19] at H;have c19b0 : decide (0 ≤ ((rd_T51 l0_0 a1).f4)) = true:=decide_eq_true c19;clear c19
          by_cases c20 : ((rd_T51 l0_0 a1).f4) < (l0_2.length : Int)
          ·rw [if_pos c20] at H;have c20b0 : decide (((rd_T51 l0_0 a1).f4) < (l0_2.length : Int)) = true:=decide_eq_true c20;clear c20;have H':=O H;clear H;have hnb21:=NB241_239.out;have hnc21:=NB239_241.out;obtain ⟨hcz22_0,hcz22_1,hcz22_2,hcz22_3,hcz22_4,hfz22_0,hfz22_1,hfz22_2,hfz22_3,hfz22_4⟩:=bz5_ BK241;obtain ⟨hcz23_0,hcz23_1,hcz23_2,hcz23_3,hcz23_4,hfz23_0,hfz23_1,hfz23_2,hfz23_3,hfz23_4⟩:=bz5_ BK239
           have p242 : 0 ≤ (((rd_T51 l0_0 a1).f4) : Int):=of_decide_eq_true (y37_)
           have q242 : ((rd_T51 l0_0 a1).f4) < (l0_2.length : Int):=of_decide_eq_true (y37_)
           obtain ⟨ad242,e242,hx242_0⟩:=Kd.at_int HR0_2.out ((rd_T51 l0_0 a1).f4) p242 q242
           cases e242
           have hn242_0 : ad242.block ≠ gb241:=Nat.ne_of_lt (Nat.lt_of_lt_of_le (by have:=World.block_lt_of_cell? _ _ hx242_0;first | rwa [add_block] at this | exact this) GW241.out)
           have hn242_1 : ad242.block ≠ gb241:=Nat.ne_of_lt (Nat.lt_of_lt_of_le (by have:=World.block_lt_of_cell? _ _ hx242_0;first | rwa [add_block] at this | exact this) GW241.out)
           have hn242_2 : ad242.block ≠ gb241:=Nat.ne_of_lt (Nat.lt_of_lt_of_le (by have:=World.block_lt_of_cell? _ _ hx242_0;first | rwa [add_block] at this | exact this) GW241.out)
           have hn242_3 : ad242.block ≠ gb241:=Nat.ne_of_lt (Nat.lt_of_lt_of_le (by have:=World.block_lt_of_cell? _ _ hx242_0;first | rwa [add_block] at this | exact this) GW241.out)
           have hn242_4 : ad242.block ≠ gb241:=Nat.ne_of_lt (Nat.lt_of_lt_of_le (by have:=World.block_lt_of_cell? _ _ hx242_0;first | rwa [add_block] at this | exact this) GW241.out)
           replace hx242_0:=clB HB hx242_0
           replace hx242_0:=(cell_far (p:=⟨gb241,0,none⟩) (by first | (rw [add_block];exact hn242_0) | (show (Addr.add _ _).block ≠ _;rw [add_block];exact hn242_0) | exact hn242_0) (.slice A240_0 ((rd_T51 l0_0 a1).f0).length c240_0)).trans hx242_0
           replace hx242_0:=(cell_far (p:=⟨gb241,1,none⟩) (by first | (rw [add_block];exact hn242_1) | (show (Addr.add _ _).block ≠ _;rw [add_block];exact hn242_1) | exact hn242_1) (.slice A240_1 ((rd_T51 l0_0 a1).f1).length c240_1)).trans hx242_0
           replace hx242_0:=(cell_far (p:=⟨gb241,2,none⟩) (by first | (rw [add_block];exact hn242_2) | (show (Addr.add _ _).block ≠ _;rw [add_block];exact hn242_2) | exact hn242_2) (.int .i64 ((rd_T51 l0_0 a1).f2))).trans hx242_0
           replace hx242_0:=(cell_far (p:=⟨gb241,3,none⟩) (by first | (rw [add_block];exact hn242_3) | (show (Addr.add _ _).block ≠ _;rw [add_block];exact hn242_3) | exact hn242_3) (.int .i64 ((rd_T51 l0_0 a1).f3))).trans hx242_0
           replace hx242_0:=(cell_far (p:=⟨gb241,4,none⟩) (by first | (rw [add_block];exact hn242_4) | (show (Addr.add _ _).block ≠ _;rw [add_block];exact hn242_4) | exact hn242_4) (.int .i64 ((rd_T51 l0_0 a1).f4))).trans hx242_0
           (try have hy242_0:=fun (n_ : Nat)=>(show (((((((w12.drewN n_).setCell ⟨gb241,0,none⟩ (.slice A240_0 ((rd_T51 l0_0 a1).f0).length c240_0)).setCell ⟨gb241,1,none⟩ (.slice A240_1 ((rd_T51 l0_0 a1).f1).length c240_1)).setCell ⟨gb241,2,none⟩ (.int .i64 ((rd_T51 l0_0 a1).f2))).setCell ⟨gb241,3,none⟩ (.int .i64 ((rd_T51 l0_0 a1).f3))).setCell ⟨gb241,4,none⟩ (.int .i64 ((rd_T51 l0_0 a1).f4)))).cell? _ = some _ from hx242_0))
           clear hn242_0 hn242_1 hn242_2 hn242_3 hn242_4;replace p242:=eq_true p242;replace q242:=eq_true q242
           go_wp2
           repeat (go_quiet (fail);try go_wp2)
           go_meet
           case rel=>exact ⟨_,(decide ((rd l0_2 ((rd_T51 l0_0 a1).f4)) > 0)),(by first | rfl | (simp;done) | (simp [*];done)),H',⟨by have:=HJ2.out;first | omega | exact Nat.le_refl _⟩,⟨y38_ NB239_241 BK239⟩,⟨y39_ BK241⟩,⟨y40_ HB GE239 GE241⟩⟩
          ·rw [if_neg c20] at H
           exact absurd H (by simp)
         ·rw [if_neg c19] at H
          exact absurd H (by simp)
        ·rw [if_neg c18] at H;obtain ⟨c18b0,c18b1⟩:=eqF c18;have H':=O H;clear H;have hnb24:=NB241_239.out;have hnc24:=NB239_241.out;obtain ⟨hcz25_0,hcz25_1,hcz25_2,hcz25_3,hcz25_4,hfz25_0,hfz25_1,hfz25_2,hfz25_3,hfz25_4⟩:=bz5_ BK241
         go_wp2
         repeat (go_quiet (fail);try go_wp2)
         go_meet
         case rel=>exact ⟨_,(false),(by first | rfl | (simp;done) | (simp [*];done)),H',⟨by have:=HJ2.out;first | omega | exact Nat.le_refl _⟩,⟨y38_ NB239_241 BK239⟩,⟨y39_ BK241⟩,⟨y40_ HB GE239 GE241⟩⟩
      case rest =>
       clear HC10;(try clear c7);(try clear c8);(try clear c8b0);(try clear c9);(try clear c9b0);(try clear hcz11_0);(try clear hcz11_1);(try clear hcz11_2);(try clear hcz11_3);(try clear hcz11_4);(try clear hcz14_0);(try clear hcz14_1);(try clear hcz14_2);(try clear hcz14_3);(try clear hcz14_4);(try clear hfz11_0);(try clear hfz11_1);(try clear hfz11_2);(try clear hfz11_3);(try clear hfz11_4);(try clear hfz14_0);(try clear hfz14_1);(try clear hfz14_2);(try clear hfz14_3);(try clear hfz14_4);(try clear hx240_0);(try clear hx240_1);(try clear hx240_2);(try clear hx240_3);(try clear hx240_4);(try clear p240);(try clear q240);obtain ⟨kq,x20_9,rfl,HA,HJ9,BK239,BK241,HB⟩:=hcut
       cases kq with
       | zero=>exact absurd HA.out (by simp [spec_l3Code.j1])
       | succ kj9 =>
        have H:=HA.out;clear HA;simp only [spec_l3Code.j1] at H
        by_cases c26 : x20_9 = true
        ·subst c26
         rw [if_pos rfl] at H;obtain rfl:=J H
         go_wp2
         repeat (go_quiet (fail);try go_wp2)
         go_ret
         exact ⟨y36_,y40_ HB GE239 GE241⟩
        ·replace c26:=Bool.eq_false_iff.mpr c26;subst c26
         rw [if_neg (show ¬ (false = true) by decide)] at H
         by_cases c27 : ((rd_T51 l0_0 a1).f2) = 2
         ·rw [if_pos c27] at H;obtain ⟨c27b0,c27b1⟩:=eqT c27;clear c27;obtain rfl:=J H;have hnb28:=NB241_239.out;have hnc28:=NB239_241.out;obtain ⟨hcz29_0,hcz29_1,hcz29_2,hcz29_3,hcz29_4,hfz29_0,hfz29_1,hfz29_2,hfz29_3,hfz29_4⟩:=bz5_ BK241
          go_wp2
          repeat (go_quiet (fail);try go_wp2)
          go_ret
          exact ⟨y36_,y40_ HB GE239 GE241⟩
         ·rw [if_neg c27] at H;obtain ⟨c27b0,c27b1⟩:=eqF c27
          by_cases c30 : (((rd_T51 l0_0 a1).f1).length : Int) = 0
          ·rw [if_pos c30] at H;obtain ⟨c30b0,c30b1⟩:=eqT c30;clear c30;obtain rfl:=J H;have hnb31:=NB241_239.out;have hnc31:=NB239_241.out;obtain ⟨hcz32_0,hcz32_1,hcz32_2,hcz32_3,hcz32_4,hfz32_0,hfz32_1,hfz32_2,hfz32_3,hfz32_4⟩:=bz5_ BK241
           go_wp2
           repeat (go_quiet (fail);try go_wp2)
           go_ret
           exact ⟨y36_,y40_ HB GE239 GE241⟩
          ·rw [if_neg c30] at H;obtain ⟨c30b0,c30b1⟩:=eqF c30
           have c30b2 : ¬ (((rd_T51 l0_0 a1).f1) = []):=fun h_=>c30 (by rw [h_];rfl)
           by_cases c33 : 0 < (((rd_T51 l0_0 a1).f1).length : Int)
           ·rw [if_pos c33] at H;have c33b0 : decide (0 < (((rd_T51 l0_0 a1).f1).length : Int)) = true:=decide_eq_true c33
            have c33b1 : decide (0 < ((rd_T51 l0_0 a1).f1).length) = true:=decide_eq_true (by omega)
            clear c33
            by_cases c34 : ((rd_T69 ((rd_T51 l0_0 a1).f1) 0).f0) = 8
            ·rw [if_pos c34] at H;obtain ⟨c34b0,c34b1⟩:=eqT c34;clear c34
             by_cases c35 : 0 ≤ ((rd_T69 ((rd_T51 l0_0 a1).f1) 0).f1)
             ·rw [if_pos c35] at H;have c35b0 : decide (0 ≤ ((rd_T69 ((rd_T51 l0_0 a1).f1) 0).f1)) = true:=decide_eq_true c35;clear c35
              by_cases c36 : ((rd_T69 ((rd_T51 l0_0 a1).f1) 0).f1) < (l0_2.length : Int)
              ·rw [if_pos c36] at H;have c36b0 : decide (((rd_T69 ((rd_T51 l0_0 a1).f1) 0).f1) < (l0_2.length : Int)) = true:=decide_eq_true c36;clear c36
               by_cases c37 : (rd l0_2 ((rd_T69 ((rd_T51 l0_0 a1).f1) 0).f1)) > 0
               ·rw [if_pos c37] at H;have c37b0 : decide (0 < (rd l0_2 ((rd_T69 ((rd_T51 l0_0 a1).f1) 0).f1))) = true:=decide_eq_true c37;clear c37;obtain rfl:=J H;have hnb38:=NB241_239.out;have hnc38:=NB239_241.out;obtain ⟨hcz39_0,hcz39_1,hcz39_2,hcz39_3,hcz39_4,hfz39_0,hfz39_1,hfz39_2,hfz39_3,hfz39_4⟩:=bz5_ BK241
                have p243 : 0 ≤ (0 : Int):=(by omega)
                have q243 : 0 < (((rd_T51 l0_0 a1).f1).length : Int):=of_decide_eq_true (y37_)
                obtain ⟨ad243,A243_4,c243_4,A243_5,c243_5,e243,hx243_0,hx243_1,hx243_2,hx243_3,hx243_4,hx243_5,hl243_4,hi243_4,hl243_5,hi243_5⟩:=at_T69 HR240_1.out 0 p243 q243
                cases e243
                have qi243 : (0 < ((rd_T51 l0_0 a1).f1).length) = True:=eq_true (by omega)
                (try rw [show ((0 : Int)).toNat = 0 from rfl] at hx243_0)
                (try rw [show 0 * 6 = 0 from rfl] at hx243_0)
                (try rw [Addr.add_zero'] at hx243_0)
                (try rw [show ((0 : Int)).toNat = 0 from rfl] at hx243_1)
                (try rw [show 0 * 6 = 0 from rfl] at hx243_1)
                (try rw [Addr.add_zero'] at hx243_1)
                (try rw [show ((0 : Int)).toNat = 0 from rfl] at hx243_2)
                (try rw [show 0 * 6 = 0 from rfl] at hx243_2)
                (try rw [Addr.add_zero'] at hx243_2)
                (try rw [show ((0 : Int)).toNat = 0 from rfl] at hx243_3)
                (try rw [show 0 * 6 = 0 from rfl] at hx243_3)
                (try rw [Addr.add_zero'] at hx243_3)
                (try rw [show ((0 : Int)).toNat = 0 from rfl] at hx243_4)
                (try rw [show 0 * 6 = 0 from rfl] at hx243_4)
                (try rw [Addr.add_zero'] at hx243_4)
                (try rw [show ((0 : Int)).toNat = 0 from rfl] at hx243_5)
                (try rw [show 0 * 6 = 0 from rfl] at hx243_5)
                (try rw [Addr.add_zero'] at hx243_5)
                replace hx243_0:=clB HB hx243_0;replace hx243_1:=clB HB hx243_1;replace hx243_2:=clB HB hx243_2;replace hx243_3:=clB HB hx243_3;replace hx243_4:=clB HB hx243_4;replace hx243_5:=clB HB hx243_5;have HR243_4:=O hi243_4;have HC243_4:=O hl243_4;clear hi243_4 hl243_4;have HR243_5:=O hi243_5;have HC243_5:=O hl243_5;clear hi243_5 hl243_5;replace p243:=eq_true p243;replace q243:=eq_true q243;obtain ⟨hcz40_0,hcz40_1,hcz40_2,hcz40_3,hcz40_4,hfz40_0,hfz40_1,hfz40_2,hfz40_3,hfz40_4⟩:=bz5_ BK239
                have p244 : 0 ≤ (0 : Int):=(by omega)
                have q244 : 0 < (((rd_T51 l0_0 a1).f1).length : Int):=of_decide_eq_true (y37_)
                obtain ⟨ad244,A244_4,c244_4,A244_5,c244_5,e244,hx244_0,hx244_1,hx244_2,hx244_3,hx244_4,hx244_5,hl244_4,hi244_4,hl244_5,hi244_5⟩:=at_T69 HR240_1.out 0 p244 q244
                obtain rfl : ad243 = ad244:=(by injection e244)
                have qi244 : (0 < ((rd_T51 l0_0 a1).f1).length) = True:=eq_true (by omega)
                (try rw [show ((0 : Int)).toNat = 0 from rfl] at hx244_0)
                (try rw [show 0 * 6 = 0 from rfl] at hx244_0)
                (try rw [Addr.add_zero'] at hx244_0)
                (try rw [show ((0 : Int)).toNat = 0 from rfl] at hx244_1)
                (try rw [show 0 * 6 = 0 from rfl] at hx244_1)
                (try rw [Addr.add_zero'] at hx244_1)
                (try rw [show ((0 : Int)).toNat = 0 from rfl] at hx244_2)
                (try rw [show 0 * 6 = 0 from rfl] at hx244_2)
                (try rw [Addr.add_zero'] at hx244_2)
                (try rw [show ((0 : Int)).toNat = 0 from rfl] at hx244_3)
                (try rw [show 0 * 6 = 0 from rfl] at hx244_3)
                (try rw [Addr.add_zero'] at hx244_3)
                (try rw [show ((0 : Int)).toNat = 0 from rfl] at hx244_4)
                (try rw [show 0 * 6 = 0 from rfl] at hx244_4)
                (try rw [Addr.add_zero'] at hx244_4)
                (try rw [show ((0 : Int)).toNat = 0 from rfl] at hx244_5)
                (try rw [show 0 * 6 = 0 from rfl] at hx244_5)
                (try rw [Addr.add_zero'] at hx244_5)
                replace hx244_0:=clB HB hx244_0;replace hx244_1:=clB HB hx244_1;replace hx244_2:=clB HB hx244_2;replace hx244_3:=clB HB hx244_3;replace hx244_4:=clB HB hx244_4;replace hx244_5:=clB HB hx244_5;have HR244_4:=O hi244_4;have HC244_4:=O hl244_4;clear hi244_4 hl244_4;have HR244_5:=O hi244_5;have HC244_5:=O hl244_5;clear hi244_5 hl244_5;replace p244:=eq_true p244;replace q244:=eq_true q244;have ea_:=J (hx243_4.symm.trans hx244_4)
                injection ea_ with ea_ en_ ec_
                subst ea_;subst ec_;clear en_;have ea_:=J (hx243_5.symm.trans hx244_5)
                injection ea_ with ea_ en_ ec_
                subst ea_;subst ec_;clear en_
                have p245 : 0 ≤ (((rd_T69 ((rd_T51 l0_0 a1).f1) 0).f1) : Int):=of_decide_eq_true (y37_)
                have q245 : ((rd_T69 ((rd_T51 l0_0 a1).f1) 0).f1) < (l0_2.length : Int):=of_decide_eq_true (y37_)
                obtain ⟨ad245,e245,hx245_0⟩:=Kd.at_int HR0_2.out ((rd_T69 ((rd_T51 l0_0 a1).f1) 0).f1) p245 q245
                cases e245
                replace hx245_0:=clB HB hx245_0;replace p245:=eq_true p245;replace q245:=eq_true q245
                go_wp2
                repeat (go_quiet (fail);try go_wp2)
                go_ret
                exact ⟨y36_,y40_ HB GE239 GE241⟩
               ·rw [if_neg c37] at H;have c37b0 : decide (0 < (rd l0_2 ((rd_T69 ((rd_T51 l0_0 a1).f1) 0).f1))) = false:=decide_eq_false c37;clear c37;obtain rfl:=J H;have hnb41:=NB241_239.out;have hnc41:=NB239_241.out;obtain ⟨hcz42_0,hcz42_1,hcz42_2,hcz42_3,hcz42_4,hfz42_0,hfz42_1,hfz42_2,hfz42_3,hfz42_4⟩:=bz5_ BK241
                have p243 : 0 ≤ (0 : Int):=(by omega)
                have q243 : 0 < (((rd_T51 l0_0 a1).f1).length : Int):=of_decide_eq_true (y37_)
                obtain ⟨ad243,A243_4,c243_4,A243_5,c243_5,e243,hx243_0,hx243_1,hx243_2,hx243_3,hx243_4,hx243_5,hl243_4,hi243_4,hl243_5,hi243_5⟩:=at_T69 HR240_1.out 0 p243 q243
                cases e243
                have qi243 : (0 < ((rd_T51 l0_0 a1).f1).length) = True:=eq_true (by omega)
                (try rw [show ((0 : Int)).toNat = 0 from rfl] at hx243_0)
                (try rw [show 0 * 6 = 0 from rfl] at hx243_0)
                (try rw [Addr.add_zero'] at hx243_0)
                (try rw [show ((0 : Int)).toNat = 0 from rfl] at hx243_1)
                (try rw [show 0 * 6 = 0 from rfl] at hx243_1)
                (try rw [Addr.add_zero'] at hx243_1)
                (try rw [show ((0 : Int)).toNat = 0 from rfl] at hx243_2)
                (try rw [show 0 * 6 = 0 from rfl] at hx243_2)
                (try rw [Addr.add_zero'] at hx243_2)
                (try rw [show ((0 : Int)).toNat = 0 from rfl] at hx243_3)
                (try rw [show 0 * 6 = 0 from rfl] at hx243_3)
                (try rw [Addr.add_zero'] at hx243_3)
                (try rw [show ((0 : Int)).toNat = 0 from rfl] at hx243_4)
                (try rw [show 0 * 6 = 0 from rfl] at hx243_4)
                (try rw [Addr.add_zero'] at hx243_4)
                (try rw [show ((0 : Int)).toNat = 0 from rfl] at hx243_5)
                (try rw [show 0 * 6 = 0 from rfl] at hx243_5)
                (try rw [Addr.add_zero'] at hx243_5)
                replace hx243_0:=clB HB hx243_0;replace hx243_1:=clB HB hx243_1;replace hx243_2:=clB HB hx243_2;replace hx243_3:=clB HB hx243_3;replace hx243_4:=clB HB hx243_4;replace hx243_5:=clB HB hx243_5;have HR243_4:=O hi243_4;have HC243_4:=O hl243_4;clear hi243_4 hl243_4;have HR243_5:=O hi243_5;have HC243_5:=O hl243_5;clear hi243_5 hl243_5;replace p243:=eq_true p243;replace q243:=eq_true q243;obtain ⟨hcz43_0,hcz43_1,hcz43_2,hcz43_3,hcz43_4,hfz43_0,hfz43_1,hfz43_2,hfz43_3,hfz43_4⟩:=bz5_ BK239
                have p244 : 0 ≤ (0 : Int):=(by omega)
                have q244 : 0 < (((rd_T51 l0_0 a1).f1).length : Int):=of_decide_eq_true (y37_)
                obtain ⟨ad244,A244_4,c244_4,A244_5,c244_5,e244,hx244_0,hx244_1,hx244_2,hx244_3,hx244_4,hx244_5,hl244_4,hi244_4,hl244_5,hi244_5⟩:=at_T69 HR240_1.out 0 p244 q244
                obtain rfl : ad243 = ad244:=(by injection e244)
                have qi244 : (0 < ((rd_T51 l0_0 a1).f1).length) = True:=eq_true (by omega)
                (try rw [show ((0 : Int)).toNat = 0 from rfl] at hx244_0)
                (try rw [show 0 * 6 = 0 from rfl] at hx244_0)
                (try rw [Addr.add_zero'] at hx244_0)
                (try rw [show ((0 : Int)).toNat = 0 from rfl] at hx244_1)
                (try rw [show 0 * 6 = 0 from rfl] at hx244_1)
                (try rw [Addr.add_zero'] at hx244_1)
                (try rw [show ((0 : Int)).toNat = 0 from rfl] at hx244_2)
                (try rw [show 0 * 6 = 0 from rfl] at hx244_2)
                (try rw [Addr.add_zero'] at hx244_2)
                (try rw [show ((0 : Int)).toNat = 0 from rfl] at hx244_3)
                (try rw [show 0 * 6 = 0 from rfl] at hx244_3)
                (try rw [Addr.add_zero'] at hx244_3)
                (try rw [show ((0 : Int)).toNat = 0 from rfl] at hx244_4)
                (try rw [show 0 * 6 = 0 from rfl] at hx244_4)
                (try rw [Addr.add_zero'] at hx244_4)
                (try rw [show ((0 : Int)).toNat = 0 from rfl] at hx244_5)
                (try rw [show 0 * 6 = 0 from rfl] at hx244_5)
                (try rw [Addr.add_zero'] at hx244_5)
                replace hx244_0:=clB HB hx244_0;replace hx244_1:=clB HB hx244_1;replace hx244_2:=clB HB hx244_2;replace hx244_3:=clB HB hx244_3;replace hx244_4:=clB HB hx244_4;replace hx244_5:=clB HB hx244_5;have HR244_4:=O hi244_4;have HC244_4:=O hl244_4;clear hi244_4 hl244_4;have HR244_5:=O hi244_5;have HC244_5:=O hl244_5;clear hi244_5 hl244_5;replace p244:=eq_true p244;replace q244:=eq_true q244;have ea_:=J (hx243_4.symm.trans hx244_4)
                injection ea_ with ea_ en_ ec_
                subst ea_;subst ec_;clear en_;have ea_:=J (hx243_5.symm.trans hx244_5)
                injection ea_ with ea_ en_ ec_
                subst ea_;subst ec_;clear en_
                have p245 : 0 ≤ (((rd_T69 ((rd_T51 l0_0 a1).f1) 0).f1) : Int):=of_decide_eq_true (y37_)
                have q245 : ((rd_T69 ((rd_T51 l0_0 a1).f1) 0).f1) < (l0_2.length : Int):=of_decide_eq_true (y37_)
                obtain ⟨ad245,e245,hx245_0⟩:=Kd.at_int HR0_2.out ((rd_T69 ((rd_T51 l0_0 a1).f1) 0).f1) p245 q245
                cases e245
                replace hx245_0:=clB HB hx245_0;replace p245:=eq_true p245;replace q245:=eq_true q245
                go_wp2
                repeat (go_quiet (fail);try go_wp2)
                go_ret
                exact ⟨y36_,y40_ HB GE239 GE241⟩
              ·rw [if_neg c36] at H
               exact absurd H (by simp)
             ·rw [if_neg c35] at H
              exact absurd H (by simp)
            ·rw [if_neg c34] at H;obtain ⟨c34b0,c34b1⟩:=eqF c34;obtain rfl:=J H;have hnb44:=NB241_239.out;have hnc44:=NB239_241.out;obtain ⟨hcz45_0,hcz45_1,hcz45_2,hcz45_3,hcz45_4,hfz45_0,hfz45_1,hfz45_2,hfz45_3,hfz45_4⟩:=bz5_ BK241
             have p243 : 0 ≤ (0 : Int):=(by omega)
             have q243 : 0 < (((rd_T51 l0_0 a1).f1).length : Int):=of_decide_eq_true (y37_)
             obtain ⟨ad243,A243_4,c243_4,A243_5,c243_5,e243,hx243_0,hx243_1,hx243_2,hx243_3,hx243_4,hx243_5,hl243_4,hi243_4,hl243_5,hi243_5⟩:=at_T69 HR240_1.out 0 p243 q243
             cases e243
             have qi243 : (0 < ((rd_T51 l0_0 a1).f1).length) = True:=eq_true (by omega)
             (try rw [show ((0 : Int)).toNat = 0 from rfl] at hx243_0)
             (try rw [show 0 * 6 = 0 from rfl] at hx243_0)
             (try rw [Addr.add_zero'] at hx243_0)
             (try rw [show ((0 : Int)).toNat = 0 from rfl] at hx243_1)
             (try rw [show 0 * 6 = 0 from rfl] at hx243_1)
             (try rw [Addr.add_zero'] at hx243_1)
             (try rw [show ((0 : Int)).toNat = 0 from rfl] at hx243_2)
             (try rw [show 0 * 6 = 0 from rfl] at hx243_2)
             (try rw [Addr.add_zero'] at hx243_2)
             (try rw [show ((0 : Int)).toNat = 0 from rfl] at hx243_3)
             (try rw [show 0 * 6 = 0 from rfl] at hx243_3)
             (try rw [Addr.add_zero'] at hx243_3)
             (try rw [show ((0 : Int)).toNat = 0 from rfl] at hx243_4)
             (try rw [show 0 * 6 = 0 from rfl] at hx243_4)
             (try rw [Addr.add_zero'] at hx243_4)
             (try rw [show ((0 : Int)).toNat = 0 from rfl] at hx243_5)
             (try rw [show 0 * 6 = 0 from rfl] at hx243_5)
             (try rw [Addr.add_zero'] at hx243_5)
             replace hx243_0:=clB HB hx243_0;replace hx243_1:=clB HB hx243_1;replace hx243_2:=clB HB hx243_2;replace hx243_3:=clB HB hx243_3;replace hx243_4:=clB HB hx243_4;replace hx243_5:=clB HB hx243_5;have HR243_4:=O hi243_4;have HC243_4:=O hl243_4;clear hi243_4 hl243_4;have HR243_5:=O hi243_5;have HC243_5:=O hl243_5;clear hi243_5 hl243_5;replace p243:=eq_true p243;replace q243:=eq_true q243
             go_wp2
             repeat (go_quiet (fail);try go_wp2)
             go_ret
             exact ⟨y36_,y40_ HB GE239 GE241⟩
           ·rw [if_neg c33] at H
            exact absurd H (by simp)
     ·rw [if_neg c9] at H
      exact absurd H (by simp)
    ·rw [if_neg c8] at H
     exact absurd H (by simp)
end Go.Proofs.Ytfbocgagfodgnaa.P

namespace Go.Proofs.Ytfbocgagfodgnaa.P
open Go.RowKit Go.Proofs.YtfbocgagfodgnaaW.PrintWords Go.Proofs.YtfbocgagfodgnaaW.PrintLast Go.Proofs.YtfbocgagfodgnaaW.PrintMore
attribute [local go_sem] max2_int min2_int max_two min_two max_three min_three max_four min_four
set_option linter.unusedVariables false
set_option linter.unusedSimpArgs false
def spec_l3Can.l0 : Nat → List Int → Int → List (S51) → List Int → List Int → List (List Int) → List (S38) → Option (List Int)
 | 0,_,_,_,_,_,_,_=>none
 | k + 1,x3,x4,x429000,x429001,x429002,x429003,x429004=>if x4 < (x429000.length : Int) then ((spec_l3Code.f k x429000 x429001 x429002 x429003 x429004 x4).bind fun t432=>(if t432 = 0 then (if x3.length < 17592186044416 then (spec_l3Can.l0 k (x3 ++ [x4]) (wrap64 (x4 + 1)) x429000 x429001 x429002 x429003 x429004) else (none)) else (spec_l3Can.l0 k x3 (wrap64 (x4 + 1)) x429000 x429001 x429002 x429003 x429004))) else (some x3)
def spec_l3Can.f (k : Nat) (l0_0 : List (S51)) (l0_1 : List Int) (l0_2 : List Int) (l0_3 : List (List Int)) (l0_4 : List (S38)) : Option (List Int):=spec_l3Can.l0 k (([] : List Int)) 0 l0_0 l0_1 l0_2 l0_3 l0_4
private theorem y31_ {A Z : Prop} (a0 : Aside0 A) (h : A → Z:=by intro h0_;(with_reducible repeat (first | apply Kd.R_alloc | apply Kd.R_drewN | apply Kd.R_drew));exact h0_) : Z:=h a0.out
private theorem y32_ {A Z : Prop} (a0 : Aside0 A) (h : A → Z:=by intro h0_;(with_reducible repeat (first | refine blk_drewN ?_ _ | refine blk_drew ?_ | refine blk_alloc ?_ _));exact h0_) : Z:=h a0.out
private theorem y33_ {A B Z : Prop} (a0 : Aside0 A) (a1 : Aside0 B) (h : A → B → Z:=by intro h0_ h1_;repeat (first | (with_reducible first | exact h0_ | apply below_alloc | apply pw_below_drewN | apply below_drew1 | refine below_set ?_ h1_) | exact h0_)) : Z:=h a0.out a1.out
private theorem y34_ {A B Z : Prop} (a0 : Aside0 A) (a1 : Aside0 B) (h : A → B → Z:=by intro h0_ h1_;repeat (first | exact (Kd.C_below h0_ h1_) | (with_reducible refine Kd.C_alloc ?_ _) | (with_reducible refine Kd.C_drewN ?_ _) | (with_reducible refine Kd.C_drew ?_))) : Z:=h a0.out a1.out
set_option maxHeartbeats 8000000 in
set_option maxRecDepth 100000 in
theorem spec_l3Can.calls (k : Nat) (A0_0 : Option Addr) (c0_0 : Nat) (l0_0 : List (S51)) (A0_1 : Option Addr) (c0_1 : Nat) (l0_1 : List Int) (A0_2 : Option Addr) (c0_2 : Nat) (l0_2 : List Int) (A0_3 : Option Addr) (c0_3 : Nat) (l0_3 : List (List Int)) (A0_4 : Option Addr) (c0_4 : Nat) (l0_4 : List (S38)) (r : List Int) (w : World) (hr0_0 : Kd.C k51 w A0_0 l0_0.length l0_0) (hc0_0 : l0_0.length ≤ c0_0) (hr0_1 : Kd.C (Kd.int .i64) w A0_1 l0_1.length l0_1) (hc0_1 : l0_1.length ≤ c0_1) (hr0_2 : Kd.C (Kd.int .i64) w A0_2 l0_2.length l0_2) (hc0_2 : l0_2.length ≤ c0_2) (hr0_3 : Kd.C (Kd.slice 3 (Kd.int .i64)) w A0_3 l0_3.length l0_3) (hc0_3 : l0_3.length ≤ c0_3) (hr0_4 : Kd.C k38 w A0_4 l0_4.length l0_4) (hc0_4 : l0_4.length ≤ c0_4) (h : spec_l3Can.f k l0_0 l0_1 l0_2 l0_3 l0_4 = some r) :
  Calls Try.prog 29 #[.agg #[.slice A0_0 l0_0.length c0_0,.slice A0_1 l0_1.length c0_1,.slice A0_2 l0_2.length c0_2,.slice A0_3 l0_3.length c0_3,.slice A0_4 l0_4.length c0_4]] w fun e w'=>∃ v0_ : Value,e = .returned (v0_) ∧ Kd.R (Kd.int .i64) 3 w' w.heap.size (fun _=>True) v0_ r ∧ Below w.heap.size w w':=by
 have hu33:=Try.underlying33;have HR0_0:=Aside0.mk hr0_0;have HC0_0:=Aside0.mk hc0_0;clear hr0_0 hc0_0;have HR0_1:=Aside0.mk hr0_1;have HC0_1:=Aside0.mk hc0_1;clear hr0_1 hc0_1;have HR0_2:=Aside0.mk hr0_2;have HC0_2:=Aside0.mk hc0_2;clear hr0_2 hc0_2;have HR0_3:=Aside0.mk hr0_3;have HC0_3:=Aside0.mk hc0_3;clear hr0_3 hc0_3;have HR0_4:=Aside0.mk hr0_4;have HC0_4:=Aside0.mk hc0_4;clear hr0_4 hc0_4;have HB:=Aside0.mk (Below.refl w.heap.size w);have H : (spec_l3Can.l0 k (([] : List Int)) 0 l0_0 l0_1 l0_2 l0_3 l0_4) = some r:=h;clear h;obtain ⟨y429,hy429⟩ : ∃ y_ : List Int,y_ = (([] : List Int)):=⟨_,rfl⟩
 replace H : (spec_l3Can.l0 k y429 0 l0_0 l0_1 l0_2 l0_3 l0_4) = some r:=by first | (rw [hy429];with_reducible exact H) | (have H2_:=(Option.bind_some _ _).symm.trans H;rw [hy429];with_reducible exact H2_) | (have H2_:=(Option.bind_some _ _).symm.trans H;with_reducible exact H2_) | with_reducible exact H | (rw [hy429];exact H) | exact H
 have Ny429:=Aside0.mk hy429;clear hy429;have H':=Aside0.mk H;clear H;go_enter Try.func29,Try.ntmps29
 go_wp2_with (first | ((with_reducible refine gate_dst (N:=1) rfl ?_);refine box_event ?hg (N:=1) ?hd (cs:=#[.slice A0_0 l0_0.length c0_0,.slice A0_1 l0_1.length c0_1,.slice A0_2 l0_2.length c0_2,.slice A0_3 l0_3.length c0_3,.slice A0_4 l0_4.length c0_4]) (t:=33) ?hr ?_;(case hd=>rfl);(case hg=>rfl);(case hr=>first | (go_simp;done) | (go_simp;rfl));intro gb428 hg w2 hbox hb;have n0_:=bxA hb hg hbox (q0_ HB);clear HB;obtain ⟨HB,BK428,GW428,GE428⟩:=n0_;clear hb hbox hg) | ((with_reducible refine gate_dst (N:=5) rfl ?_);refine Kd.R_lit (Kd.int .i64) _ 3 ?hg (N:=5) ?hd (xs:=([] : List Int)) (inner:=[]) (ok:=fun _=>True) (okp:=fun _=>True) ?hr ?hp (fun _ hk=>hk) trivial (Below.refl _ _) (Nat.le_refl _) (by simp) ?_;(case hd=>rfl);(case hg=>rfl);(case hr=>first | (go_simp;done) | (go_simp;rfl));(case hp=>exact (Reps.none _ _));intro v430 w3 ho4 hb hg_ hnew_;clear hg_ hnew_;(first | rw [← Ny429.out] at ho4 | (simp only [Int.reduceToNat] at ho4;rw [← Ny429.out] at ho4));have n0_:=ap3 (Kd.R_lower ho4 (below_size (q10_ HB GE428))) (blk_below (g:=gb428) (o:=.cells #[.slice A0_0 l0_0.length c0_0,.slice A0_1 l0_1.length c0_1,.slice A0_2 l0_2.length c0_2,.slice A0_3 l0_3.length c0_3,.slice A0_4 l0_4.length c0_4] 33 (0,0)) (q6_ BK428) hb) (below_step (q10_ HB GE428) hb);clear BK428 HB;obtain ⟨HO431,BK428,HB⟩:=n0_;clear hb ho4))
 go_loopg [3,4] k (fun kq v3 v4 w'=>∃ (x3_1 : List Int) (x4_1 : Int),v4 = .int .i64 x4_1 ∧ Aside0 (spec_l3Can.l0 kq x3_1 x4_1 l0_0 l0_1 l0_2 l0_3 l0_4 = some r) ∧ Aside0 (kq ≤ k) ∧ Aside0 (Kd.R (Kd.int .i64) 3 w' w.heap.size (fun _=>True) v3 x3_1) ∧ Aside0 (w'.heap[gb428]? = some (.cells #[(.slice A0_0 l0_0.length c0_0),(.slice A0_1 l0_1.length c0_1),(.slice A0_2 l0_2.length c0_2),(.slice A0_3 l0_3.length c0_3),(.slice A0_4 l0_4.length c0_4)] 33 (0,0))) ∧ Aside0 (Below w.heap.size w w'))
 case atStart=>exact ⟨(y429),(0),(by first | rfl | (simp;done) | (simp [*];done)),H',⟨Nat.le_refl _⟩,⟨y31_ HO431⟩,⟨y32_ BK428⟩,⟨y33_ HB GE428⟩⟩
 case round =>
  clear H';obtain ⟨x3_1,x4_1,rfl,HA,HK1,HO_3,BK428,HB⟩:=hrel
  cases gk with
  | zero=>exact absurd HA.out (by simp [spec_l3Can.l0])
  | succ k1 =>
   have H:=HA.out;clear HA;simp only [spec_l3Can.l0] at H
   by_cases c5 : x4_1 < (l0_0.length : Int)
   ·rw [if_pos c5] at H;have c5b0 : decide (x4_1 < (l0_0.length : Int)) = true:=decide_eq_true c5;clear c5;obtain ⟨t432,A6,H⟩:=bnd H
    by_cases c7 : t432 = 0
    ·rw [if_pos c7] at H;obtain ⟨c7b0,c7b1⟩:=eqT c7;clear c7
     by_cases c8 : x3_1.length < 17592186044416
     ·rw [if_pos c8] at H;have LMc8:=Aside0.mk c8;clear c8;obtain ⟨y433,hy433⟩ : ∃ y_ : List Int,y_ = (x3_1 ++ [x4_1]):=⟨_,rfl⟩
      replace H : (spec_l3Can.l0 k1 y433 (wrap64 (x4_1 + 1)) l0_0 l0_1 l0_2 l0_3 l0_4) = some r:=by first | (rw [hy433];with_reducible exact H) | (have H2_:=(Option.bind_some _ _).symm.trans H;rw [hy433];with_reducible exact H2_) | (have H2_:=(Option.bind_some _ _).symm.trans H;with_reducible exact H2_) | with_reducible exact H | (rw [hy433];exact H) | exact H
      have Ny433:=Aside0.mk hy433;clear hy433;have H':=Aside0.mk H;clear H;obtain ⟨hcz9_0,hcz9_1,hcz9_2,hcz9_3,hcz9_4,hfz9_0,hfz9_1,hfz9_2,hfz9_3,hfz9_4⟩:=bz5_ BK428
      go_wp2_with (first | ((with_reducible refine gate_callee (f:=30) rfl ?_);refine goesM_ (some 15) Try.func30 #[.agg #[.slice A0_0 l0_0.length c0_0,.slice A0_1 l0_1.length c0_1,.slice A0_2 l0_2.length c0_2,.slice A0_3 l0_3.length c0_3,.slice A0_4 l0_4.length c0_4],.int .i64 x4_1] ?_;(with_reducible refine (spec_l3Code.calls k1 _ _ l0_0 _ _ l0_1 _ _ l0_2 _ _ l0_3 _ _ l0_4 x4_1 t432 _ ?side1 ?side2 ?side3 ?side4 ?side5 ?side6 ?side7 ?side8 ?side9 ?side10 A6.out).mono ?_);(case side1=>exact y34_ HR0_0 HB);(case side2=>exact HC0_0.out);(case side3=>exact y34_ HR0_1 HB);(case side4=>exact HC0_1.out);(case side5=>exact y34_ HR0_2 HB);(case side6=>exact HC0_2.out);(case side7=>exact y34_ HR0_3 HB);(case side8=>exact HC0_3.out);(case side9=>exact y34_ HR0_4 HB);(case side10=>exact HC0_4.out);rintro e w10 ⟨rfl,hb⟩;refine ⟨_,rfl,?_⟩;have n0_:=ap3 (Kd.R_below (q8_ HO_3) hb) (blk_below (g:=gb428) (o:=.cells #[.slice A0_0 l0_0.length c0_0,.slice A0_1 l0_1.length c0_1,.slice A0_2 l0_2.length c0_2,.slice A0_3 l0_3.length c0_3,.slice A0_4 l0_4.length c0_4] 33 (0,0)) (q6_ BK428) hb) (below_step (q10_ HB GE428) hb);clear HO_3 BK428 HB;obtain ⟨HO_3,BK428,HB⟩:=n0_;(try clear hb);(try clear hk)) | ((with_reducible refine gate_builtin (b:=.append) (xs:=#[.tmp 17,.tmp 19]) rfl ?_);at_builtin;refine Kd.R_append (Kd.int .i64) (w0:=w) w.heap.size rfl (.tmp 17) (.tmp 19) 26 3 (.int .i64 0) 8 rfl Try.underlying26 info3 rfl (by decide) (by omega) u3 x3_1 x4_1 [.int .i64 x4_1] (fun _=>True) (fun _=>False) rfl rfl ?aP (fun _ hk=>hk.elim) ?aF ?aO ?aB ?aS ?aL ?_;(case aP=>exact rfl);(case aB=>exact q10_ HB GE428);(case aF=>exact (fun _ _=>trivial));(case aO=>exact q8_ HO_3);(case aS=>exact (below_size (q10_ HB GE428)));(case aL=>have:=LMc8.out;omega);intro v434 w11 ho hb hg hat;rw [← Ny433.out] at ho;have n0_:=ap3 (blk_grown (g:=gb428) (o:=.cells #[.slice A0_0 l0_0.length c0_0,.slice A0_1 l0_1.length c0_1,.slice A0_2 l0_2.length c0_2,.slice A0_3 l0_3.length c0_3,.slice A0_4 l0_4.length c0_4] 33 (0,0)) (q6_ BK428) hg (Kd.R_ne HO_3.out BK428.out (by decide))) (hb) (ho);clear BK428 HB HO_3;obtain ⟨BK428,HB,HO435⟩:=n0_;clear ho hb hg hat))
      go_roundg k1
      case measure=>have:=HK1.out;omega
      case rel=>exact ⟨(y433),(wrap64 (x4_1 + 1)),(by first | rfl | (simp;done) | (simp [*];done)),H',⟨by have:=HK1.out;omega⟩,⟨y31_ HO435⟩,⟨y32_ BK428⟩,⟨y33_ HB GE428⟩⟩
     ·rw [if_neg c8] at H
      exact absurd H (by simp)
    ·rw [if_neg c7] at H;obtain ⟨c7b0,c7b1⟩:=eqF c7;have H':=Aside0.mk H;clear H;obtain ⟨hcz12_0,hcz12_1,hcz12_2,hcz12_3,hcz12_4,hfz12_0,hfz12_1,hfz12_2,hfz12_3,hfz12_4⟩:=bz5_ BK428
     go_wp2_with (first | ((with_reducible refine gate_callee (f:=30) rfl ?_);refine goesM_ (some 15) Try.func30 #[.agg #[.slice A0_0 l0_0.length c0_0,.slice A0_1 l0_1.length c0_1,.slice A0_2 l0_2.length c0_2,.slice A0_3 l0_3.length c0_3,.slice A0_4 l0_4.length c0_4],.int .i64 x4_1] ?_;(with_reducible refine (spec_l3Code.calls k1 _ _ l0_0 _ _ l0_1 _ _ l0_2 _ _ l0_3 _ _ l0_4 x4_1 t432 _ ?side1 ?side2 ?side3 ?side4 ?side5 ?side6 ?side7 ?side8 ?side9 ?side10 A6.out).mono ?_);(case side1=>exact y34_ HR0_0 HB);(case side2=>exact HC0_0.out);(case side3=>exact y34_ HR0_1 HB);(case side4=>exact HC0_1.out);(case side5=>exact y34_ HR0_2 HB);(case side6=>exact HC0_2.out);(case side7=>exact y34_ HR0_3 HB);(case side8=>exact HC0_3.out);(case side9=>exact y34_ HR0_4 HB);(case side10=>exact HC0_4.out);rintro e w13 ⟨rfl,hb⟩;refine ⟨_,rfl,?_⟩;have n0_:=ap3 (Kd.R_below (q8_ HO_3) hb) (blk_below (g:=gb428) (o:=.cells #[.slice A0_0 l0_0.length c0_0,.slice A0_1 l0_1.length c0_1,.slice A0_2 l0_2.length c0_2,.slice A0_3 l0_3.length c0_3,.slice A0_4 l0_4.length c0_4] 33 (0,0)) (q6_ BK428) hb) (below_step (q10_ HB GE428) hb);clear HO_3 BK428 HB;obtain ⟨HO_3,BK428,HB⟩:=n0_;(try clear hb)))
     go_roundg k1
     case measure=>have:=HK1.out;omega
     case rel=>exact ⟨(x3_1),(wrap64 (x4_1 + 1)),(by first | rfl | (simp;done) | (simp [*];done)),H',⟨by have:=HK1.out;omega⟩,⟨y31_ HO_3⟩,⟨y32_ BK428⟩,⟨y33_ HB GE428⟩⟩
   ·rw [if_neg c5] at H;have c5b0 : decide (x4_1 < (l0_0.length : Int)) = false:=decide_eq_false c5;clear c5;obtain rfl:=Option.some.inj H;obtain ⟨hcz14_0,hcz14_1,hcz14_2,hcz14_3,hcz14_4,hfz14_0,hfz14_1,hfz14_2,hfz14_3,hfz14_4⟩:=bz5_ BK428
    go_wp2
    go_ret
    exact ⟨_,by first | rfl | (simp [errW_none,errW_some] <;> rfl) | (simp [*,errW_none,errW_some] <;> rfl),y31_ HO_3,y33_ HB GE428⟩
end Go.Proofs.Ytfbocgagfodgnaa.P
