/- Parts of the proof of FnWholeOk: plain Lean functions of Go functions, and that the calls come to what they say; no condition beyond those that each theorem names. -/
import Derived.Test.YthgdapgophkklaaZFnWholeOk4
import Derived.Test.YthgdapgophkklaaZFnWholeOk11
import Derived.Test.YthgdapgophkklaaZFnWholeOk6
namespace Go.Proofs.Ythgdapgophkklaa.P
open Go.RowKit Go.Proofs.YthgdapgophkklaaW.PrintWords Go.Proofs.YthgdapgophkklaaW.PrintLast Go.Proofs.YthgdapgophkklaaW.PrintMore
attribute [local go_sem] max2_int min2_int max_two min_two max_three min_three max_four min_four
set_option linter.unusedVariables false
set_option linter.unusedSimpArgs false
def spec_DrawWholeOk.f (k : Nat) (l0 : List Int) : Option ((List (List (S41))) × List Int):=(spec_l11Open.f l0).bind fun bt395=>((spec_l6Some.f k bt395.1 bt395.2).bind fun bt398=>(some (bt398.1,bt398.2.1)))
set_option maxHeartbeats 8000000 in
set_option maxRecDepth 100000 in
theorem spec_DrawWholeOk.calls (k : Nat) (A0 : Option Addr) (c0 : Nat) (l0 : List Int) (r1 : List (List (S41))) (r2 : List Int) (w : World) (hr0 : Kd.C (Kd.int .u8) w A0 l0.length l0) (hc0 : l0.length ≤ c0) (h : spec_DrawWholeOk.f k l0 = some (r1,r2)) :
  Calls Try.prog 4 #[.slice A0 l0.length c0] w fun e w'=>∃ v0_ v1_ : Value,e = .returned (.tuple #[v0_,v1_]) ∧ Kd.N (Kd.slice 41 k41) 36 w' w.heap.size (fun k_=>(w.heap.size ≤ k_) ∧ some k_ ≠ (v1_ : Value).ownBlock) v0_ r1 ∧ Kd.Q (Kd.int .i64) 3 w' w.heap.size (fun k_=>(w.heap.size ≤ k_)) v1_ r2 ∧ Below w.heap.size w w':=by
 have HR0:=Aside0.mk hr0;have HC0:=Aside0.mk hc0;clear hr0 hc0;have HB:=Aside0.mk (Below.refl w.heap.size w);have H : ((spec_l11Open.f l0).bind fun bt395=>((spec_l6Some.f k bt395.1 bt395.2).bind fun bt398=>(some (bt398.1,bt398.2.1)))) = some (r1,r2):=h;clear h;replace H:=Option.bind_eq_some_iff.mp H;obtain ⟨⟨t395,t396⟩,A20,H⟩:=H;replace H : ((spec_l6Some.f k t395 t396).bind fun bt398=>(some (bt398.1,bt398.2.1))) = some (r1,r2):=H;have A2:=Aside0.mk A20;clear A20;replace H:=Option.bind_eq_some_iff.mp H;obtain ⟨⟨t398,t401,t404⟩,A30,H⟩:=H;replace H : (some (t398,t401)) = some (r1,r2):=H;have A3:=Aside0.mk A30;clear A30;simp only [Option.some.injEq,Prod.mk.injEq] at H;obtain ⟨rfl,rfl⟩:=H;go_enter Try.func4,Try.ntmps4
 go_wp2_with (first | ((with_reducible refine gate_callee (f:=9) rfl ?_);refine goesM_ (some 5) Try.func9 #[.slice A0 l0.length c0] ?_;(with_reducible refine (spec_l11Open.calls _ _ l0 t395 t396 w _ ?side1 ?side2 ?side3 A2.out).mono ?_);(case side1=>exact q3_ HB);(case side2=>exact HR0.out);(case side3=>exact HC0.out);rintro e w4 ⟨g397,rfl,hi,hb,hb2⟩;refine ⟨_,rfl,?_⟩;have n0_:=Aside0.mk (hb);have n1_:=Aside0.mk (hi);clear HB;have HB:=n0_;have HI397:=n1_;clear n0_ n1_;(try clear hb);(try clear hb2);(try clear hk);(try clear hi)) | ((with_reducible refine gate_callee (f:=8) rfl ?_);refine goesM_ (some 6) Try.func8 #[.pointer (some ⟨g397,0,none⟩)] ?_;(with_reducible refine (spec_l6Some.calls k g397 t395 t396 t398 t401 t404 w _ ?side1 ?side2 A3.out).mono ?_);(case side1=>exact q0_ HI397);(case side2=>exact q1_ HB HI397);rintro e w5 ⟨v399,v402,rfl,ho0,ho1,hi,hb,hk⟩;refine ⟨_,rfl,?_⟩;have n0_:=Aside0.mk (Kd.N_lower (Kd.N_mono (ok':=fun k_=>(w.heap.size ≤ k_) ∧ some k_ ≠ (v402 : Value).ownBlock ∧ k_ ≠ g397) ho0 (fun k_ hk_=>⟨(Nat.le_trans (below_size (q1_ HB HI397)) hk_.1),hk_.2,(IsS53.fresh (q0_ HI397) k_ hk_.1)⟩)) (below_size (q1_ HB HI397)));have n1_:=Aside0.mk (Kd.Q_lower (Kd.Q_newM (M:=fun k_=>(w.heap.size ≤ k_)) (Kd.Q_mono (ok':=fun k_=>True) ho1 (fun _ hk_=>trivial)) (below_size (q1_ HB HI397)) (fun k_ h_=>h_)) (below_size (q1_ HB HI397)));have n2_:=Aside0.mk (hb);have n3_:=Aside0.mk (hi);clear HB HI397;have HO400:=n0_;have HO403:=n1_;have HB:=n2_;have HI397:=n3_;clear n0_ n1_ n2_ n3_;(try clear hb);(try clear hb2);(try clear hk);(try clear hi);(try clear ho0);(try clear ho1)))
 go_ret2
 exact ⟨_,_,by first | rfl | (simp [errW_none,errW_some] <;> rfl) | (simp [*,errW_none,errW_some] <;> rfl),by (with_reducible repeat (first | apply Kd.N_alloc | apply Kd.N_drewN | apply Kd.N_drew));exact Kd.N_mono HO400.out (fun _ hk=>⟨hk.1,hk.2.1⟩),by (with_reducible repeat (first | apply Kd.Q_alloc | apply Kd.Q_drewN | apply Kd.Q_drew));exact Kd.Q_mono HO403.out (fun _ hk=>hk.1),by repeat (first | (with_reducible first | exact HB.out | apply below_alloc | apply pw_below_drewN | apply below_drew1 | refine below_set ?_ (IsS53.ge HI397.out)) | exact HB.out)⟩
end Go.Proofs.Ythgdapgophkklaa.P

namespace Go.Proofs.Ythgdapgophkklaa.P
open Go.RowKit Go.Proofs.YthgdapgophkklaaW.PrintWords Go.Proofs.YthgdapgophkklaaW.PrintLast Go.Proofs.YthgdapgophkklaaW.PrintMore
open Go.Proofs.YthgdapgophkklaaW.PrintWords renaming Aside0.mk → O, blk_frozen → Z, blk_cell → J, pw_below_drewN → Y, below_drew1 → E, below_alloc → U
open Go renaming World.block_lt_of_cell? → G
attribute [local go_sem] max2_int min2_int max_two min_two max_three min_three max_four min_four
set_option linter.unusedVariables false
set_option linter.unusedSimpArgs false
mutual
def spec_l6Owns.l0 : Nat → List (S41) → List Int → Int → Int → Int → Option (Bool)
 | 0,_,_,_,_,_=>none
 | k + 1,x0,x1,x2,x3,x9=>if x9 < (x0.length : Int) then (spec_l6Owns.j1 k x0 x1 x2 x3 x9 (decide (x3 > 0))) else (spec_l6Owns.j1 k x0 x1 x2 x3 x9 false)
def spec_l6Owns.j1 : Nat → List (S41) → List Int → Int → Int → Int → Bool → Option (Bool)
 | 0,_,_,_,_,_,_=>none
 | k + 1,x0,x1,x2,x3,x9,x20=>if x20 = true then (if 0 ≤ x9 then (if x9 < (x0.length : Int) then (if ((rd_T41 x0 x9).f0) = 8 then (spec_l6Owns.j2 k x0 x1 x2 x3 x9 ((rd_T41 x0 x9).f1) (-1) ((rd_T41 x0 x9).f0) ((rd_T41 x0 x9).f1) ((rd_T41 x0 x9).f2) ((rd_T41 x0 x9).f3) ((rd_T41 x0 x9).f4) ((rd_T41 x0 x9).f5)) else (if ((rd_T41 x0 x9).f0) = 3 then (spec_l6Owns.j2 k x0 x1 x2 x3 x9 x2 ((rd_T41 x0 x9).f2) ((rd_T41 x0 x9).f0) ((rd_T41 x0 x9).f1) ((rd_T41 x0 x9).f2) ((rd_T41 x0 x9).f3) ((rd_T41 x0 x9).f4) ((rd_T41 x0 x9).f5)) else (if ((rd_T41 x0 x9).f0) = 4 then (spec_l6Owns.j2 k x0 x1 x2 x3 x9 x2 ((rd_T41 x0 x9).f1) ((rd_T41 x0 x9).f0) ((rd_T41 x0 x9).f1) ((rd_T41 x0 x9).f2) ((rd_T41 x0 x9).f3) ((rd_T41 x0 x9).f4) ((rd_T41 x0 x9).f5)) else (if ((rd_T41 x0 x9).f0) = 9 then (spec_l6Owns.j2 k x0 x1 x2 x3 x9 x2 (wrap64 (3 + ((rd_T41 x0 x9).f1))) ((rd_T41 x0 x9).f0) ((rd_T41 x0 x9).f1) ((rd_T41 x0 x9).f2) ((rd_T41 x0 x9).f3) ((rd_T41 x0 x9).f4) ((rd_T41 x0 x9).f5)) else (if ((rd_T41 x0 x9).f0) = 10 then (spec_l6Owns.j2 k x0 x1 x2 x3 x9 x2 (wrap64 (3 + ((rd_T41 x0 x9).f1))) ((rd_T41 x0 x9).f0) ((rd_T41 x0 x9).f1) ((rd_T41 x0 x9).f2) ((rd_T41 x0 x9).f3) ((rd_T41 x0 x9).f4) ((rd_T41 x0 x9).f5)) else (spec_l6Owns.j2 k x0 x1 x2 x3 x9 x2 (-1) ((rd_T41 x0 x9).f0) ((rd_T41 x0 x9).f1) ((rd_T41 x0 x9).f2) ((rd_T41 x0 x9).f3) ((rd_T41 x0 x9).f4) ((rd_T41 x0 x9).f5))))))) else (none)) else (none)) else (some true)
def spec_l6Owns.j2 : Nat → List (S41) → List Int → Int → Int → Int → Int → Int → Int → Int → Int → Int → List (S41) → List (S41) → Option (Bool)
 | 0,_,_,_,_,_,_,_,_,_,_,_,_,_=>none
 | k + 1,x0,x1,x2,x3,x9,x11,x12,x409000,x409001,x409002,x409003,x409004,x409005=>if x12 ≥ 0 then (if 0 ≤ x12 then (if x12 < (x1.length : Int) then (spec_l6Owns.j3 k x0 x1 x2 x3 x9 x11 ((rd x1 x12) != x2) x409000 x409001 x409002 x409003 x409004 x409005) else (none)) else (none)) else (spec_l6Owns.j3 k x0 x1 x2 x3 x9 x11 false x409000 x409001 x409002 x409003 x409004 x409005)
def spec_l6Owns.j3 : Nat → List (S41) → List Int → Int → Int → Int → Int → Bool → Int → Int → Int → Int → List (S41) → List (S41) → Option (Bool)
 | 0,_,_,_,_,_,_,_,_,_,_,_,_,_=>none
 | k + 1,x0,x1,x2,x3,x9,x11,x57,x409000,x409001,x409002,x409003,x409004,x409005=>if x57 = true then (some false) else ((spec_l6Owns.f k x409004 x1 x11 (wrap64 (x3 - 1))).bind fun t410=>(if t410 = true then ((spec_l6Owns.f k x409005 x1 x11 (wrap64 (x3 - 1))).bind fun t411=>(if t411 = true then (spec_l6Owns.l0 k x0 x1 x2 x3 (wrap64 (x9 + 1))) else (some false))) else (some false)))
def spec_l6Owns.f : Nat → List (S41) → List Int → Int → Int → Option (Bool)
 | 0,_,_,_,_=>none
 | k + 1,l0,l1,a2,a3=>spec_l6Owns.l0 k l0 l1 a2 a3 0
end
set_option maxHeartbeats 8000000 in
set_option maxRecDepth 100000 in
theorem spec_l6Owns.calls (k : Nat) : ∀ (A0 : Option Addr) (c0 : Nat) (l0 : List (S41)) (A1 : Option Addr) (c1 : Nat) (l1 : List Int) (a2 : Int) (a3 : Int) (r : Bool) (w : World) (hr0 : Kd.C k41 w A0 l0.length l0) (hc0 : l0.length ≤ c0) (hr1 : Kd.C (Kd.int .i64) w A1 l1.length l1) (hc1 : l1.length ≤ c1) (h : spec_l6Owns.f k l0 l1 a2 a3 = some r),
  Calls Try.prog 16 #[.slice A0 l0.length c0,.slice A1 l1.length c1,.int .i64 a2,.int .i64 a3] w fun e w'=>e = .returned (.bool r) ∧ Below w.heap.size w w':=by
 induction k using Nat.strongRecOn with
 | _ k ih =>
 intro A0 c0 l0 A1 c1 l1 a2 a3 r w hr0 hc0 hr1 hc1 h
 cases k with
 | zero=>exact absurd h (by simp [spec_l6Owns.f])
 | succ k =>
 simp only [spec_l6Owns.f] at h;have hu41:=Try.underlying41;have HR0:=O hr0;have HC0:=O hc0;clear hr0 hc0;have HR1:=O hr1;have HC1:=O hc1;clear hr1 hc1;have HB:=O (Below.refl w.heap.size w);have H : (spec_l6Owns.l0 k l0 l1 a2 a3 0) = some r:=h;clear h;have H':=O H;clear H;go_enter Try.func16,Try.ntmps16
 go_wp2
 go_loopg [9] k (fun kq v9 w'=>∃ (x9_1 : Int),v9 = .int .i64 x9_1 ∧ Aside0 (spec_l6Owns.l0 kq l0 l1 a2 a3 x9_1 = some r) ∧ Aside0 (kq ≤ k) ∧ Aside0 (Below w.heap.size w w'))
 case atStart=>exact ⟨(0),(by first | rfl | (simp;done) | (simp [*];done)),H',⟨Nat.le_refl _⟩,⟨by repeat (first | (with_reducible first | exact HB.out | apply U | apply Y | apply E) | exact HB.out)⟩⟩
 case round =>
  clear H';(try clear c1);(try clear p2);obtain ⟨x9_1,rfl,HA,HK1,HB⟩:=hrel
  cases gk with
  | zero=>exact absurd HA.out (by simp [spec_l6Owns.l0])
  | succ k1 =>
   have H:=HA.out;clear HA;simp only [spec_l6Owns.l0] at H;have HC5:=O H;clear H
   go_upto_region 2 with (fail)
   go_cut [20] (fun v20 wc=>∃ (kq : Nat) (x20_4 : Bool),v20 = .bool x20_4 ∧ Aside0 (spec_l6Owns.j1 kq l0 l1 a2 a3 x9_1 x20_4 = some r) ∧ Aside0 (kq ≤ k1) ∧ Aside0 (Below w.heap.size w wc))
   case first =>
    have H:=HC5.out;clear HC5
    by_cases c6 : x9_1 < (l0.length : Int)
    ·rw [if_pos c6] at H;have c6b0 : decide (x9_1 < (l0.length : Int)) = true:=decide_eq_true c6;clear c6
     (first | rw [c6b0] | (simp only [i64_w,i32_w];rw [c6b0]) | skip)
     have H':=O H;clear H
     go_wp2
     go_meet
     case rel=>exact ⟨_,(decide (a3 > 0)),(by first | rfl | (simp;done) | (simp [*];done)),H',⟨by have:=HK1.out;first | omega | exact Nat.le_refl _⟩,⟨by repeat (first | (with_reducible first | exact HB.out | apply U | apply Y | apply E) | exact HB.out)⟩⟩
    ·rw [if_neg c6] at H;have c6b0 : decide (x9_1 < (l0.length : Int)) = false:=decide_eq_false c6;clear c6
     (first | rw [c6b0] | (simp only [i64_w,i32_w];rw [c6b0]) | skip)
     have H':=O H;clear H
     go_wp2
     go_meet
     case rel=>exact ⟨_,(false),(by first | rfl | (simp;done) | (simp [*];done)),H',⟨by have:=HK1.out;first | omega | exact Nat.le_refl _⟩,⟨by repeat (first | (with_reducible first | exact HB.out | apply U | apply Y | apply E) | exact HB.out)⟩⟩
   case rest =>
    clear HC5;(try clear c1);(try clear p2);(try clear c6);(try clear c6b0);(try clear p2);obtain ⟨kq,x20_4,rfl,HA,HJ4,HB⟩:=hcut
    cases kq with
    | zero=>exact absurd HA.out (by simp [spec_l6Owns.j1])
    | succ kj4 =>
     have H:=HA.out;clear HA;simp only [spec_l6Owns.j1] at H
     by_cases c7 : x20_4 = true
     ·subst c7
      have H1 : (if 0 ≤ x9_1 then (if x9_1 < (l0.length : Int) then (if ((rd_T41 l0 x9_1).f0) = 8 then (spec_l6Owns.j2 kj4 l0 l1 a2 a3 x9_1 ((rd_T41 l0 x9_1).f1) (-1) ((rd_T41 l0 x9_1).f0) ((rd_T41 l0 x9_1).f1) ((rd_T41 l0 x9_1).f2) ((rd_T41 l0 x9_1).f3) ((rd_T41 l0 x9_1).f4) ((rd_T41 l0 x9_1).f5)) else (if ((rd_T41 l0 x9_1).f0) = 3 then (spec_l6Owns.j2 kj4 l0 l1 a2 a3 x9_1 a2 ((rd_T41 l0 x9_1).f2) ((rd_T41 l0 x9_1).f0) ((rd_T41 l0 x9_1).f1) ((rd_T41 l0 x9_1).f2) ((rd_T41 l0 x9_1).f3) ((rd_T41 l0 x9_1).f4) ((rd_T41 l0 x9_1).f5)) else (if ((rd_T41 l0 x9_1).f0) = 4 then (spec_l6Owns.j2 kj4 l0 l1 a2 a3 x9_1 a2 ((rd_T41 l0 x9_1).f1) ((rd_T41 l0 x9_1).f0) ((rd_T41 l0 x9_1).f1) ((rd_T41 l0 x9_1).f2) ((rd_T41 l0 x9_1).f3) ((rd_T41 l0 x9_1).f4) ((rd_T41 l0 x9_1).f5)) else (if ((rd_T41 l0 x9_1).f0) = 9 then (spec_l6Owns.j2 kj4 l0 l1 a2 a3 x9_1 a2 (wrap64 (3 + ((rd_T41 l0 x9_1).f1))) ((rd_T41 l0 x9_1).f0) ((rd_T41 l0 x9_1).f1) ((rd_T41 l0 x9_1).f2) ((rd_T41 l0 x9_1).f3) ((rd_T41 l0 x9_1).f4) ((rd_T41 l0 x9_1).f5)) else (if ((rd_T41 l0 x9_1).f0) = 10 then (spec_l6Owns.j2 kj4 l0 l1 a2 a3 x9_1 a2 (wrap64 (3 + ((rd_T41 l0 x9_1).f1))) ((rd_T41 l0 x9_1).f0) ((rd_T41 l0 x9_1).f1) ((rd_T41 l0 x9_1).f2) ((rd_T41 l0 x9_1).f3) ((rd_T41 l0 x9_1).f4) ((rd_T41 l0 x9_1).f5)) else (spec_l6Owns.j2 kj4 l0 l1 a2 a3 x9_1 a2 (-1) ((rd_T41 l0 x9_1).f0) ((rd_T41 l0 x9_1).f1) ((rd_T41 l0 x9_1).f2) ((rd_T41 l0 x9_1).f3) ((rd_T41 l0 x9_1).f4) ((rd_T41 l0 x9_1).f5))))))) else (none)) else (none)) = some r:=by rw [if_pos rfl] at H;exact H
      clear H;have H:=H1;clear H1
      by_cases c8 : 0 ≤ x9_1
      ·rw [if_pos c8] at H;have c8b0 : decide (0 ≤ x9_1) = true:=decide_eq_true c8;clear c8
       by_cases c9 : x9_1 < (l0.length : Int)
       ·rw [if_pos c9] at H;have c9b0 : decide (x9_1 < (l0.length : Int)) = true:=decide_eq_true c9;clear c9;have HC10:=O H;clear H
        have p407 : 0 ≤ (x9_1 : Int):=of_decide_eq_true (by first | (with_reducible assumption) | assumption)
        have q407 : x9_1 < (l0.length : Int):=of_decide_eq_true (by first | (with_reducible assumption) | assumption)
        obtain ⟨ad407,A407_4,c407_4,A407_5,c407_5,e407,hx407_0,hx407_1,hx407_2,hx407_3,hx407_4,hx407_5,hl407_4,hi407_4,hl407_5,hi407_5⟩:=at_T41 HR0.out x9_1 p407 q407
        cases e407
        replace hx407_0:=(HB.out.cell (G w _ hx407_0)).trans hx407_0;replace hx407_1:=(HB.out.cell (G w _ hx407_1)).trans hx407_1;replace hx407_2:=(HB.out.cell (G w _ hx407_2)).trans hx407_2;replace hx407_3:=(HB.out.cell (G w _ hx407_3)).trans hx407_3;replace hx407_4:=(HB.out.cell (G w _ hx407_4)).trans hx407_4;replace hx407_5:=(HB.out.cell (G w _ hx407_5)).trans hx407_5;have HR407_4:=O hi407_4;have HC407_4:=O hl407_4;clear hi407_4 hl407_4;have HR407_5:=O hi407_5;have HC407_5:=O hl407_5;clear hi407_5 hl407_5;replace p407:=eq_true p407;replace q407:=eq_true q407
        go_upto_block 2 with (first | ((with_reducible refine gate_dst (N:=10) rfl ?_);refine box_event ?hg (N:=10) ?hd (cs:=#[.int .i64 0,.int .i64 0,.int .i64 0,.int .i64 0,.slice none 0 0,.slice none 0 0]) (t:=41) ?hr ?_;(case hd=>rfl);(case hg=>rfl);(case hr=>first | (go_simp;done) | (go_simp;rfl));intro gb408 hg w11 hbox hb;have n0_:=O (below_step (q3_ HB) hb);have n1_:=O (hbox);have n2_:=O ((by rw [hg];exact (below_size (q3_ HB)) : w.heap.size ≤ gb408));have n3_:=O ((by rw [hg];exact (below_size (q3_ HB)) : w.heap.size ≤ gb408));clear HB;have HB:=n0_;have BK408:=n1_;have GW408:=n2_;have GE408:=n3_;clear n0_ n1_ n2_ n3_ hb hbox hg;have hcz12_0 : w11.cell? ⟨gb408,0,none⟩ = some (.int .i64 0):=(J BK408.out 0).trans rfl;have hcz12_1 : w11.cell? ⟨gb408,1,none⟩ = some (.int .i64 0):=(J BK408.out 1).trans rfl;have hcz12_2 : w11.cell? ⟨gb408,2,none⟩ = some (.int .i64 0):=(J BK408.out 2).trans rfl;have hcz12_3 : w11.cell? ⟨gb408,3,none⟩ = some (.int .i64 0):=(J BK408.out 3).trans rfl;have hcz12_4 : w11.cell? ⟨gb408,4,none⟩ = some (.slice none 0 0):=(J BK408.out 4).trans rfl;have hcz12_5 : w11.cell? ⟨gb408,5,none⟩ = some (.slice none 0 0):=(J BK408.out 5).trans rfl;have hfz12_0:=Z BK408.out 0;have hfz12_1:=Z BK408.out 1;have hfz12_2:=Z BK408.out 2;have hfz12_3:=Z BK408.out 3;have hfz12_4:=Z BK408.out 4;have hfz12_5:=Z BK408.out 5))
        (try simp only [Act.put,List.setIfInBounds_toArray,List.set_cons_zero,List.set_cons_succ])
        go_cut [11,12] (fun v11 v12 wc=>∃ (kq : Nat) (x11_9 : Int) (x12_9 : Int),v11 = .int .i64 x11_9 ∧ v12 = .int .i64 x12_9 ∧ Aside0 (spec_l6Owns.j2 kq l0 l1 a2 a3 x9_1 x11_9 x12_9 ((rd_T41 l0 x9_1).f0) ((rd_T41 l0 x9_1).f1) ((rd_T41 l0 x9_1).f2) ((rd_T41 l0 x9_1).f3) ((rd_T41 l0 x9_1).f4) ((rd_T41 l0 x9_1).f5) = some r) ∧ Aside0 (kq ≤ kj4) ∧ Aside0 (wc.heap[gb408]? = some (.cells #[.int .i64 ((rd_T41 l0 x9_1).f0),.int .i64 ((rd_T41 l0 x9_1).f1),.int .i64 ((rd_T41 l0 x9_1).f2),.int .i64 ((rd_T41 l0 x9_1).f3),(.slice A407_4 ((rd_T41 l0 x9_1).f4).length c407_4),(.slice A407_5 ((rd_T41 l0 x9_1).f5).length c407_5)] 41 (0,0))) ∧ Aside0 (Below w.heap.size w wc))
        case first =>
         have H:=HC10.out;clear HC10
         by_cases c13 : ((rd_T41 l0 x9_1).f0) = 8
         ·rw [if_pos c13] at H;have c13b0 : (((rd_T41 l0 x9_1).f0) == 8) = true:=beq_iff_eq.mpr c13;have c13b1 : (((rd_T41 l0 x9_1).f0) != 8) = false:=bne_eq_false_iff_eq.mpr c13;clear c13
          (first | rw [c13b0] | (simp only [i64_w,i32_w];rw [c13b0]) | skip)
          have H':=O H;clear H;have hcz14_0 : w11.cell? ⟨gb408,0,none⟩ = some (.int .i64 0):=(J BK408.out 0).trans rfl;have hcz14_1 : w11.cell? ⟨gb408,1,none⟩ = some (.int .i64 0):=(J BK408.out 1).trans rfl;have hcz14_2 : w11.cell? ⟨gb408,2,none⟩ = some (.int .i64 0):=(J BK408.out 2).trans rfl;have hcz14_3 : w11.cell? ⟨gb408,3,none⟩ = some (.int .i64 0):=(J BK408.out 3).trans rfl;have hcz14_4 : w11.cell? ⟨gb408,4,none⟩ = some (.slice none 0 0):=(J BK408.out 4).trans rfl;have hcz14_5 : w11.cell? ⟨gb408,5,none⟩ = some (.slice none 0 0):=(J BK408.out 5).trans rfl;have hfz14_0:=Z BK408.out 0;have hfz14_1:=Z BK408.out 1;have hfz14_2:=Z BK408.out 2;have hfz14_3:=Z BK408.out 3;have hfz14_4:=Z BK408.out 4;have hfz14_5:=Z BK408.out 5
          go_wp2
          go_meet
          case rel=>exact ⟨_,((rd_T41 l0 x9_1).f1),((-1)),(by first | rfl | (simp;done) | (simp [*];done)),(by first | rfl | (simp;done) | (simp [*];done)),H',⟨by have:=HK1.out;have:=HJ4.out;first | omega | exact Nat.le_refl _⟩,⟨by (with_reducible repeat (first | refine blk_drewN ?_ _ | refine blk_drew ?_ | refine blk_alloc ?_ _));apply bp6_5_;(with_reducible repeat (first | refine blk_drewN ?_ _ | refine blk_drew ?_ | refine blk_alloc ?_ _));apply bp6_4_;(with_reducible repeat (first | refine blk_drewN ?_ _ | refine blk_drew ?_ | refine blk_alloc ?_ _));apply bp6_3_;(with_reducible repeat (first | refine blk_drewN ?_ _ | refine blk_drew ?_ | refine blk_alloc ?_ _));apply bp6_2_;(with_reducible repeat (first | refine blk_drewN ?_ _ | refine blk_drew ?_ | refine blk_alloc ?_ _));apply bp6_1_;(with_reducible repeat (first | refine blk_drewN ?_ _ | refine blk_drew ?_ | refine blk_alloc ?_ _));apply bp6_0_;(with_reducible repeat (first | refine blk_drewN ?_ _ | refine blk_drew ?_ | refine blk_alloc ?_ _));exact BK408.out⟩,⟨by repeat (first | (with_reducible first | exact HB.out | apply U | apply Y | apply E | refine below_set ?_ GE408.out) | exact HB.out)⟩⟩
         ·rw [if_neg c13] at H;have c13b0 : (((rd_T41 l0 x9_1).f0) == 8) = false:=beq_eq_false_iff_ne.mpr c13;have c13b1 : (((rd_T41 l0 x9_1).f0) != 8) = true:=bne_iff_ne.mpr c13
          (first | rw [c13b0] | (simp only [i64_w,i32_w];rw [c13b0]) | skip)
          by_cases c15 : ((rd_T41 l0 x9_1).f0) = 3
          ·rw [if_pos c15] at H;have c15b0 : (((rd_T41 l0 x9_1).f0) == 3) = true:=beq_iff_eq.mpr c15;have c15b1 : (((rd_T41 l0 x9_1).f0) != 3) = false:=bne_eq_false_iff_eq.mpr c15;clear c15;have H':=O H;clear H;have hcz16_0 : w11.cell? ⟨gb408,0,none⟩ = some (.int .i64 0):=(J BK408.out 0).trans rfl;have hcz16_1 : w11.cell? ⟨gb408,1,none⟩ = some (.int .i64 0):=(J BK408.out 1).trans rfl;have hcz16_2 : w11.cell? ⟨gb408,2,none⟩ = some (.int .i64 0):=(J BK408.out 2).trans rfl;have hcz16_3 : w11.cell? ⟨gb408,3,none⟩ = some (.int .i64 0):=(J BK408.out 3).trans rfl;have hcz16_4 : w11.cell? ⟨gb408,4,none⟩ = some (.slice none 0 0):=(J BK408.out 4).trans rfl;have hcz16_5 : w11.cell? ⟨gb408,5,none⟩ = some (.slice none 0 0):=(J BK408.out 5).trans rfl;have hfz16_0:=Z BK408.out 0;have hfz16_1:=Z BK408.out 1;have hfz16_2:=Z BK408.out 2;have hfz16_3:=Z BK408.out 3;have hfz16_4:=Z BK408.out 4;have hfz16_5:=Z BK408.out 5
           go_wp2
           go_meet
           case rel=>exact ⟨_,(a2),((rd_T41 l0 x9_1).f2),(by first | rfl | (simp;done) | (simp [*];done)),(by first | rfl | (simp;done) | (simp [*];done)),H',⟨by have:=HK1.out;have:=HJ4.out;first | omega | exact Nat.le_refl _⟩,⟨by (with_reducible repeat (first | refine blk_drewN ?_ _ | refine blk_drew ?_ | refine blk_alloc ?_ _));apply bp6_5_;(with_reducible repeat (first | refine blk_drewN ?_ _ | refine blk_drew ?_ | refine blk_alloc ?_ _));apply bp6_4_;(with_reducible repeat (first | refine blk_drewN ?_ _ | refine blk_drew ?_ | refine blk_alloc ?_ _));apply bp6_3_;(with_reducible repeat (first | refine blk_drewN ?_ _ | refine blk_drew ?_ | refine blk_alloc ?_ _));apply bp6_2_;(with_reducible repeat (first | refine blk_drewN ?_ _ | refine blk_drew ?_ | refine blk_alloc ?_ _));apply bp6_1_;(with_reducible repeat (first | refine blk_drewN ?_ _ | refine blk_drew ?_ | refine blk_alloc ?_ _));apply bp6_0_;(with_reducible repeat (first | refine blk_drewN ?_ _ | refine blk_drew ?_ | refine blk_alloc ?_ _));exact BK408.out⟩,⟨by repeat (first | (with_reducible first | exact HB.out | apply U | apply Y | apply E | refine below_set ?_ GE408.out) | exact HB.out)⟩⟩
          ·rw [if_neg c15] at H;have c15b0 : (((rd_T41 l0 x9_1).f0) == 3) = false:=beq_eq_false_iff_ne.mpr c15;have c15b1 : (((rd_T41 l0 x9_1).f0) != 3) = true:=bne_iff_ne.mpr c15
           by_cases c17 : ((rd_T41 l0 x9_1).f0) = 4
           ·rw [if_pos c17] at H;have c17b0 : (((rd_T41 l0 x9_1).f0) == 4) = true:=beq_iff_eq.mpr c17;have c17b1 : (((rd_T41 l0 x9_1).f0) != 4) = false:=bne_eq_false_iff_eq.mpr c17;clear c17;have H':=O H;clear H;have hcz18_0 : w11.cell? ⟨gb408,0,none⟩ = some (.int .i64 0):=(J BK408.out 0).trans rfl;have hcz18_1 : w11.cell? ⟨gb408,1,none⟩ = some (.int .i64 0):=(J BK408.out 1).trans rfl;have hcz18_2 : w11.cell? ⟨gb408,2,none⟩ = some (.int .i64 0):=(J BK408.out 2).trans rfl;have hcz18_3 : w11.cell? ⟨gb408,3,none⟩ = some (.int .i64 0):=(J BK408.out 3).trans rfl;have hcz18_4 : w11.cell? ⟨gb408,4,none⟩ = some (.slice none 0 0):=(J BK408.out 4).trans rfl;have hcz18_5 : w11.cell? ⟨gb408,5,none⟩ = some (.slice none 0 0):=(J BK408.out 5).trans rfl;have hfz18_0:=Z BK408.out 0;have hfz18_1:=Z BK408.out 1;have hfz18_2:=Z BK408.out 2;have hfz18_3:=Z BK408.out 3;have hfz18_4:=Z BK408.out 4;have hfz18_5:=Z BK408.out 5
            go_wp2
            go_meet
            case rel=>exact ⟨_,(a2),((rd_T41 l0 x9_1).f1),(by first | rfl | (simp;done) | (simp [*];done)),(by first | rfl | (simp;done) | (simp [*];done)),H',⟨by have:=HK1.out;have:=HJ4.out;first | omega | exact Nat.le_refl _⟩,⟨by (with_reducible repeat (first | refine blk_drewN ?_ _ | refine blk_drew ?_ | refine blk_alloc ?_ _));apply bp6_5_;(with_reducible repeat (first | refine blk_drewN ?_ _ | refine blk_drew ?_ | refine blk_alloc ?_ _));apply bp6_4_;(with_reducible repeat (first | refine blk_drewN ?_ _ | refine blk_drew ?_ | refine blk_alloc ?_ _));apply bp6_3_;(with_reducible repeat (first | refine blk_drewN ?_ _ | refine blk_drew ?_ | refine blk_alloc ?_ _));apply bp6_2_;(with_reducible repeat (first | refine blk_drewN ?_ _ | refine blk_drew ?_ | refine blk_alloc ?_ _));apply bp6_1_;(with_reducible repeat (first | refine blk_drewN ?_ _ | refine blk_drew ?_ | refine blk_alloc ?_ _));apply bp6_0_;(with_reducible repeat (first | refine blk_drewN ?_ _ | refine blk_drew ?_ | refine blk_alloc ?_ _));exact BK408.out⟩,⟨by repeat (first | (with_reducible first | exact HB.out | apply U | apply Y | apply E | refine below_set ?_ GE408.out) | exact HB.out)⟩⟩
           ·rw [if_neg c17] at H;have c17b0 : (((rd_T41 l0 x9_1).f0) == 4) = false:=beq_eq_false_iff_ne.mpr c17;have c17b1 : (((rd_T41 l0 x9_1).f0) != 4) = true:=bne_iff_ne.mpr c17
            by_cases c19 : ((rd_T41 l0 x9_1).f0) = 9
            ·rw [if_pos c19] at H;have c19b0 : (((rd_T41 l0 x9_1).f0) == 9) = true:=beq_iff_eq.mpr c19;have c19b1 : (((rd_T41 l0 x9_1).f0) != 9) = false:=bne_eq_false_iff_eq.mpr c19;clear c19;have H':=O H;clear H;have hcz20_0 : w11.cell? ⟨gb408,0,none⟩ = some (.int .i64 0):=(J BK408.out 0).trans rfl;have hcz20_1 : w11.cell? ⟨gb408,1,none⟩ = some (.int .i64 0):=(J BK408.out 1).trans rfl;have hcz20_2 : w11.cell? ⟨gb408,2,none⟩ = some (.int .i64 0):=(J BK408.out 2).trans rfl;have hcz20_3 : w11.cell? ⟨gb408,3,none⟩ = some (.int .i64 0):=(J BK408.out 3).trans rfl;have hcz20_4 : w11.cell? ⟨gb408,4,none⟩ = some (.slice none 0 0):=(J BK408.out 4).trans rfl;have hcz20_5 : w11.cell? ⟨gb408,5,none⟩ = some (.slice none 0 0):=(J BK408.out 5).trans rfl;have hfz20_0:=Z BK408.out 0;have hfz20_1:=Z BK408.out 1;have hfz20_2:=Z BK408.out 2;have hfz20_3:=Z BK408.out 3;have hfz20_4:=Z BK408.out 4;have hfz20_5:=Z BK408.out 5
             go_wp2
             go_meet
             case rel=>exact ⟨_,(a2),(wrap64 (3 + ((rd_T41 l0 x9_1).f1))),(by first | rfl | (simp;done) | (simp [*];done)),(by first | rfl | (simp;done) | (simp [*];done)),H',⟨by have:=HK1.out;have:=HJ4.out;first | omega | exact Nat.le_refl _⟩,⟨by (with_reducible repeat (first | refine blk_drewN ?_ _ | refine blk_drew ?_ | refine blk_alloc ?_ _));apply bp6_5_;(with_reducible repeat (first | refine blk_drewN ?_ _ | refine blk_drew ?_ | refine blk_alloc ?_ _));apply bp6_4_;(with_reducible repeat (first | refine blk_drewN ?_ _ | refine blk_drew ?_ | refine blk_alloc ?_ _));apply bp6_3_;(with_reducible repeat (first | refine blk_drewN ?_ _ | refine blk_drew ?_ | refine blk_alloc ?_ _));apply bp6_2_;(with_reducible repeat (first | refine blk_drewN ?_ _ | refine blk_drew ?_ | refine blk_alloc ?_ _));apply bp6_1_;(with_reducible repeat (first | refine blk_drewN ?_ _ | refine blk_drew ?_ | refine blk_alloc ?_ _));apply bp6_0_;(with_reducible repeat (first | refine blk_drewN ?_ _ | refine blk_drew ?_ | refine blk_alloc ?_ _));exact BK408.out⟩,⟨by repeat (first | (with_reducible first | exact HB.out | apply U | apply Y | apply E | refine below_set ?_ GE408.out) | exact HB.out)⟩⟩
            ·rw [if_neg c19] at H;have c19b0 : (((rd_T41 l0 x9_1).f0) == 9) = false:=beq_eq_false_iff_ne.mpr c19;have c19b1 : (((rd_T41 l0 x9_1).f0) != 9) = true:=bne_iff_ne.mpr c19
             by_cases c21 : ((rd_T41 l0 x9_1).f0) = 10
             ·rw [if_pos c21] at H;have c21b0 : (((rd_T41 l0 x9_1).f0) == 10) = true:=beq_iff_eq.mpr c21;have c21b1 : (((rd_T41 l0 x9_1).f0) != 10) = false:=bne_eq_false_iff_eq.mpr c21;clear c21;have H':=O H;clear H;have hcz22_0 : w11.cell? ⟨gb408,0,none⟩ = some (.int .i64 0):=(J BK408.out 0).trans rfl;have hcz22_1 : w11.cell? ⟨gb408,1,none⟩ = some (.int .i64 0):=(J BK408.out 1).trans rfl;have hcz22_2 : w11.cell? ⟨gb408,2,none⟩ = some (.int .i64 0):=(J BK408.out 2).trans rfl;have hcz22_3 : w11.cell? ⟨gb408,3,none⟩ = some (.int .i64 0):=(J BK408.out 3).trans rfl;have hcz22_4 : w11.cell? ⟨gb408,4,none⟩ = some (.slice none 0 0):=(J BK408.out 4).trans rfl;have hcz22_5 : w11.cell? ⟨gb408,5,none⟩ = some (.slice none 0 0):=(J BK408.out 5).trans rfl;have hfz22_0:=Z BK408.out 0;have hfz22_1:=Z BK408.out 1;have hfz22_2:=Z BK408.out 2;have hfz22_3:=Z BK408.out 3;have hfz22_4:=Z BK408.out 4;have hfz22_5:=Z BK408.out 5
              go_wp2
              go_meet
              case rel=>exact ⟨_,(a2),(wrap64 (3 + ((rd_T41 l0 x9_1).f1))),(by first | rfl | (simp;done) | (simp [*];done)),(by first | rfl | (simp;done) | (simp [*];done)),H',⟨by have:=HK1.out;have:=HJ4.out;first | omega | exact Nat.le_refl _⟩,⟨by (with_reducible repeat (first | refine blk_drewN ?_ _ | refine blk_drew ?_ | refine blk_alloc ?_ _));apply bp6_5_;(with_reducible repeat (first | refine blk_drewN ?_ _ | refine blk_drew ?_ | refine blk_alloc ?_ _));apply bp6_4_;(with_reducible repeat (first | refine blk_drewN ?_ _ | refine blk_drew ?_ | refine blk_alloc ?_ _));apply bp6_3_;(with_reducible repeat (first | refine blk_drewN ?_ _ | refine blk_drew ?_ | refine blk_alloc ?_ _));apply bp6_2_;(with_reducible repeat (first | refine blk_drewN ?_ _ | refine blk_drew ?_ | refine blk_alloc ?_ _));apply bp6_1_;(with_reducible repeat (first | refine blk_drewN ?_ _ | refine blk_drew ?_ | refine blk_alloc ?_ _));apply bp6_0_;(with_reducible repeat (first | refine blk_drewN ?_ _ | refine blk_drew ?_ | refine blk_alloc ?_ _));exact BK408.out⟩,⟨by repeat (first | (with_reducible first | exact HB.out | apply U | apply Y | apply E | refine below_set ?_ GE408.out) | exact HB.out)⟩⟩
             ·rw [if_neg c21] at H;have c21b0 : (((rd_T41 l0 x9_1).f0) == 10) = false:=beq_eq_false_iff_ne.mpr c21;have c21b1 : (((rd_T41 l0 x9_1).f0) != 10) = true:=bne_iff_ne.mpr c21;have H':=O H;clear H
              go_wp2
              go_meet
              case rel=>exact ⟨_,(a2),((-1)),(by first | rfl | (simp;done) | (simp [*];done)),(by first | rfl | (simp;done) | (simp [*];done)),H',⟨by have:=HK1.out;have:=HJ4.out;first | omega | exact Nat.le_refl _⟩,⟨by (with_reducible repeat (first | refine blk_drewN ?_ _ | refine blk_drew ?_ | refine blk_alloc ?_ _));apply bp6_5_;(with_reducible repeat (first | refine blk_drewN ?_ _ | refine blk_drew ?_ | refine blk_alloc ?_ _));apply bp6_4_;(with_reducible repeat (first | refine blk_drewN ?_ _ | refine blk_drew ?_ | refine blk_alloc ?_ _));apply bp6_3_;(with_reducible repeat (first | refine blk_drewN ?_ _ | refine blk_drew ?_ | refine blk_alloc ?_ _));apply bp6_2_;(with_reducible repeat (first | refine blk_drewN ?_ _ | refine blk_drew ?_ | refine blk_alloc ?_ _));apply bp6_1_;(with_reducible repeat (first | refine blk_drewN ?_ _ | refine blk_drew ?_ | refine blk_alloc ?_ _));apply bp6_0_;(with_reducible repeat (first | refine blk_drewN ?_ _ | refine blk_drew ?_ | refine blk_alloc ?_ _));exact BK408.out⟩,⟨by repeat (first | (with_reducible first | exact HB.out | apply U | apply Y | apply E | refine below_set ?_ GE408.out) | exact HB.out)⟩⟩
        case rest =>
         clear HC10;(try clear c1);(try clear c2);(try clear p2);(try clear c4);(try clear p4);(try clear q4);(try clear hx4);(try clear c6);(try clear c6b0);(try clear p6);(try clear c7);(try clear c8);(try clear c8b0);(try clear c9);(try clear c9b0);(try clear c13);(try clear c13b0);(try clear c13b1);(try clear c15);(try clear c15b0);(try clear c15b1);(try clear c16);(try clear c17);(try clear c17b0);(try clear c17b1);(try clear c19);(try clear c19b0);(try clear c19b1);(try clear c21);(try clear c21b0);(try clear c21b1);(try clear hcz12_0);(try clear hcz12_1);(try clear hcz12_2);(try clear hcz12_3);(try clear hcz12_4);(try clear hcz12_5);(try clear hcz14_0);(try clear hcz14_1);(try clear hcz14_2);(try clear hcz14_3);(try clear hcz14_4);(try clear hcz14_5);(try clear hcz16_0);(try clear hcz16_1);(try clear hcz16_2);(try clear hcz16_3);(try clear hcz16_4);(try clear hcz16_5);(try clear hcz18_0);(try clear hcz18_1);(try clear hcz18_2);(try clear hcz18_3);(try clear hcz18_4);(try clear hcz18_5);(try clear hcz20_0);(try clear hcz20_1);(try clear hcz20_2);(try clear hcz20_3);(try clear hcz20_4);(try clear hcz20_5);(try clear hcz22_0);(try clear hcz22_1);(try clear hcz22_2);(try clear hcz22_3);(try clear hcz22_4);(try clear hcz22_5);(try clear hfz12_0);(try clear hfz12_1);(try clear hfz12_2);(try clear hfz12_3);(try clear hfz12_4);(try clear hfz12_5);(try clear hfz14_0);(try clear hfz14_1);(try clear hfz14_2);(try clear hfz14_3);(try clear hfz14_4);(try clear hfz14_5);(try clear hfz16_0);(try clear hfz16_1);(try clear hfz16_2);(try clear hfz16_3);(try clear hfz16_4);(try clear hfz16_5);(try clear hfz18_0);(try clear hfz18_1);(try clear hfz18_2);(try clear hfz18_3);(try clear hfz18_4);(try clear hfz18_5);(try clear hfz20_0);(try clear hfz20_1);(try clear hfz20_2);(try clear hfz20_3);(try clear hfz20_4);(try clear hfz20_5);(try clear hfz22_0);(try clear hfz22_1);(try clear hfz22_2);(try clear hfz22_3);(try clear hfz22_4);(try clear hfz22_5);(try clear hx407_0);(try clear hx407_1);(try clear hx407_2);(try clear hx407_3);(try clear hx407_4);(try clear hx407_5);(try clear p2);(try clear p407);(try clear q407);obtain ⟨kq,x11_9,x12_9,rfl,rfl,HA,HJ9,BK408,HB⟩:=hcut
         cases kq with
         | zero=>exact absurd HA.out (by simp [spec_l6Owns.j2])
         | succ kj9 =>
          have H:=HA.out;clear HA;simp only [spec_l6Owns.j2] at H;have HC23:=O H;clear H
          go_upto_region 17 with (fail)
          go_cut [57] (fun v57 wc=>∃ (kq : Nat) (x57_22 : Bool),v57 = .bool x57_22 ∧ Aside0 (spec_l6Owns.j3 kq l0 l1 a2 a3 x9_1 x11_9 x57_22 ((rd_T41 l0 x9_1).f0) ((rd_T41 l0 x9_1).f1) ((rd_T41 l0 x9_1).f2) ((rd_T41 l0 x9_1).f3) ((rd_T41 l0 x9_1).f4) ((rd_T41 l0 x9_1).f5) = some r) ∧ Aside0 (kq ≤ kj9) ∧ Aside0 (wc.heap[gb408]? = some (.cells #[.int .i64 ((rd_T41 l0 x9_1).f0),.int .i64 ((rd_T41 l0 x9_1).f1),.int .i64 ((rd_T41 l0 x9_1).f2),.int .i64 ((rd_T41 l0 x9_1).f3),(.slice A407_4 ((rd_T41 l0 x9_1).f4).length c407_4),(.slice A407_5 ((rd_T41 l0 x9_1).f5).length c407_5)] 41 (0,0))) ∧ Aside0 (Below w.heap.size w wc))
          case first =>
           have H:=HC23.out;clear HC23
           by_cases c24 : x12_9 ≥ 0
           ·rw [if_pos c24] at H;have c24b0 : decide (0 ≤ x12_9) = true:=decide_eq_true c24;clear c24
            (first | rw [c24b0] | (simp only [i64_w,i32_w];rw [c24b0]) | skip)
            by_cases c25 : 0 ≤ x12_9
            ·rw [if_pos c25] at H;have c25b0 : decide (0 ≤ x12_9) = true:=decide_eq_true c25;clear c25
             by_cases c26 : x12_9 < (l1.length : Int)
             ·rw [if_pos c26] at H;have c26b0 : decide (x12_9 < (l1.length : Int)) = true:=decide_eq_true c26;clear c26;have H':=O H;clear H
              have p409 : 0 ≤ (x12_9 : Int):=of_decide_eq_true (by first | (with_reducible assumption) | assumption)
              have q409 : x12_9 < (l1.length : Int):=of_decide_eq_true (by first | (with_reducible assumption) | assumption)
              obtain ⟨ad409,e409,hx409_0⟩:=Kd.at_int HR1.out x12_9 p409 q409
              cases e409
              replace hx409_0:=(HB.out.cell (G w _ hx409_0)).trans hx409_0;replace p409:=eq_true p409;replace q409:=eq_true q409
              go_wp2
              go_meet
              case rel=>exact ⟨_,(((rd l1 x12_9) != a2)),(by first | rfl | (simp;done) | (simp [*];done)),H',⟨by have:=HK1.out;have:=HJ4.out;have:=HJ9.out;first | omega | exact Nat.le_refl _⟩,⟨by (with_reducible repeat (first | refine blk_drewN ?_ _ | refine blk_drew ?_ | refine blk_alloc ?_ _));exact BK408.out⟩,⟨by repeat (first | (with_reducible first | exact HB.out | apply U | apply Y | apply E | refine below_set ?_ GE408.out) | exact HB.out)⟩⟩
             ·rw [if_neg c26] at H
              exact absurd H (by simp)
            ·rw [if_neg c25] at H
             exact absurd H (by simp)
           ·rw [if_neg c24] at H;have c24b0 : decide (0 ≤ x12_9) = false:=decide_eq_false c24;clear c24
            (first | rw [c24b0] | (simp only [i64_w,i32_w];rw [c24b0]) | skip)
            have H':=O H;clear H
            go_wp2
            go_meet
            case rel=>exact ⟨_,(false),(by first | rfl | (simp;done) | (simp [*];done)),H',⟨by have:=HK1.out;have:=HJ4.out;have:=HJ9.out;first | omega | exact Nat.le_refl _⟩,⟨by (with_reducible repeat (first | refine blk_drewN ?_ _ | refine blk_drew ?_ | refine blk_alloc ?_ _));exact BK408.out⟩,⟨by repeat (first | (with_reducible first | exact HB.out | apply U | apply Y | apply E | refine below_set ?_ GE408.out) | exact HB.out)⟩⟩
          case rest =>
           clear HC23;(try clear c1);(try clear c2);(try clear p2);(try clear c4);(try clear p4);(try clear q4);(try clear hx4);(try clear c6);(try clear c6b0);(try clear p6);(try clear c7);(try clear c8);(try clear c8b0);(try clear c9);(try clear c9b0);(try clear c13);(try clear c13b0);(try clear c13b1);(try clear c15);(try clear c15b0);(try clear c15b1);(try clear c16);(try clear c17);(try clear c17b0);(try clear c17b1);(try clear c19);(try clear c19b0);(try clear c19b1);(try clear c21);(try clear c21b0);(try clear c21b1);(try clear c24);(try clear c24b0);(try clear c25);(try clear c25b0);(try clear c26);(try clear c26b0);(try clear hcz12_0);(try clear hcz12_1);(try clear hcz12_2);(try clear hcz12_3);(try clear hcz12_4);(try clear hcz12_5);(try clear hcz14_0);(try clear hcz14_1);(try clear hcz14_2);(try clear hcz14_3);(try clear hcz14_4);(try clear hcz14_5);(try clear hcz16_0);(try clear hcz16_1);(try clear hcz16_2);(try clear hcz16_3);(try clear hcz16_4);(try clear hcz16_5);(try clear hcz18_0);(try clear hcz18_1);(try clear hcz18_2);(try clear hcz18_3);(try clear hcz18_4);(try clear hcz18_5);(try clear hcz20_0);(try clear hcz20_1);(try clear hcz20_2);(try clear hcz20_3);(try clear hcz20_4);(try clear hcz20_5);(try clear hcz22_0);(try clear hcz22_1);(try clear hcz22_2);(try clear hcz22_3);(try clear hcz22_4);(try clear hcz22_5);(try clear hfz12_0);(try clear hfz12_1);(try clear hfz12_2);(try clear hfz12_3);(try clear hfz12_4);(try clear hfz12_5);(try clear hfz14_0);(try clear hfz14_1);(try clear hfz14_2);(try clear hfz14_3);(try clear hfz14_4);(try clear hfz14_5);(try clear hfz16_0);(try clear hfz16_1);(try clear hfz16_2);(try clear hfz16_3);(try clear hfz16_4);(try clear hfz16_5);(try clear hfz18_0);(try clear hfz18_1);(try clear hfz18_2);(try clear hfz18_3);(try clear hfz18_4);(try clear hfz18_5);(try clear hfz20_0);(try clear hfz20_1);(try clear hfz20_2);(try clear hfz20_3);(try clear hfz20_4);(try clear hfz20_5);(try clear hfz22_0);(try clear hfz22_1);(try clear hfz22_2);(try clear hfz22_3);(try clear hfz22_4);(try clear hfz22_5);(try clear hx407_0);(try clear hx407_1);(try clear hx407_2);(try clear hx407_3);(try clear hx407_4);(try clear hx407_5);(try clear hx409_0);(try clear p2);(try clear p4);(try clear p407);(try clear p409);(try clear p6);(try clear q4);(try clear q407);(try clear q409);obtain ⟨kq,x57_22,rfl,HA,HJ22,BK408,HB⟩:=hcut
           cases kq with
           | zero=>exact absurd HA.out (by simp [spec_l6Owns.j3])
           | succ kj22 =>
            have H:=HA.out;clear HA;simp only [spec_l6Owns.j3] at H
            by_cases c27 : x57_22 = true
            ·subst c27
             have H1 : (some false) = some r:=by rw [if_pos rfl] at H;exact H
             clear H;have H:=H1;clear H1;obtain rfl:=Option.some.inj H
             go_wp2
             go_ret
             exact ⟨by first | rfl | (simp [errW_none,errW_some] <;> rfl) | (simp [*,errW_none,errW_some] <;> rfl),by repeat (first | (with_reducible first | exact HB.out | apply U | apply Y | apply E | refine below_set ?_ GE408.out) | exact HB.out)⟩
            ·replace c27:=Bool.eq_false_iff.mpr c27;subst c27
             have H1 : ((spec_l6Owns.f kj22 ((rd_T41 l0 x9_1).f4) l1 x11_9 (wrap64 (a3 - 1))).bind fun t410=>(if t410 = true then ((spec_l6Owns.f kj22 ((rd_T41 l0 x9_1).f5) l1 x11_9 (wrap64 (a3 - 1))).bind fun t411=>(if t411 = true then (spec_l6Owns.l0 kj22 l0 l1 a2 a3 (wrap64 (x9_1 + 1))) else (some false))) else (some false))) = some r:=by rw [if_neg (show ¬ (false = true) by decide)] at H;exact H
             clear H;have H:=H1;clear H1;replace H:=Option.bind_eq_some_iff.mp H;obtain ⟨t410,A280,H⟩:=H;replace H : (if t410 = true then ((spec_l6Owns.f kj22 ((rd_T41 l0 x9_1).f5) l1 x11_9 (wrap64 (a3 - 1))).bind fun t411=>(if t411 = true then (spec_l6Owns.l0 kj22 l0 l1 a2 a3 (wrap64 (x9_1 + 1))) else (some false))) else (some false)) = some r:=H;have A28:=O A280;clear A280
             by_cases c29 : t410 = true
             ·subst c29
              have H1 : ((spec_l6Owns.f kj22 ((rd_T41 l0 x9_1).f5) l1 x11_9 (wrap64 (a3 - 1))).bind fun t411=>(if t411 = true then (spec_l6Owns.l0 kj22 l0 l1 a2 a3 (wrap64 (x9_1 + 1))) else (some false))) = some r:=by rw [if_pos rfl] at H;exact H
              clear H;have H:=H1;clear H1;replace H:=Option.bind_eq_some_iff.mp H;obtain ⟨t411,A300,H⟩:=H;replace H : (if t411 = true then (spec_l6Owns.l0 kj22 l0 l1 a2 a3 (wrap64 (x9_1 + 1))) else (some false)) = some r:=H;have A30:=O A300;clear A300
              by_cases c31 : t411 = true
              ·subst c31
               have H1 : (spec_l6Owns.l0 kj22 l0 l1 a2 a3 (wrap64 (x9_1 + 1))) = some r:=by rw [if_pos rfl] at H;exact H
               clear H;have H:=H1;clear H1;have H':=O H;clear H;have hcz32_0 : wc.cell? ⟨gb408,0,none⟩ = some (.int .i64 ((rd_T41 l0 x9_1).f0)):=(J BK408.out 0).trans rfl;have hcz32_1 : wc.cell? ⟨gb408,1,none⟩ = some (.int .i64 ((rd_T41 l0 x9_1).f1)):=(J BK408.out 1).trans rfl;have hcz32_2 : wc.cell? ⟨gb408,2,none⟩ = some (.int .i64 ((rd_T41 l0 x9_1).f2)):=(J BK408.out 2).trans rfl;have hcz32_3 : wc.cell? ⟨gb408,3,none⟩ = some (.int .i64 ((rd_T41 l0 x9_1).f3)):=(J BK408.out 3).trans rfl;have hcz32_4 : wc.cell? ⟨gb408,4,none⟩ = some (.slice A407_4 ((rd_T41 l0 x9_1).f4).length c407_4):=(J BK408.out 4).trans rfl;have hcz32_5 : wc.cell? ⟨gb408,5,none⟩ = some (.slice A407_5 ((rd_T41 l0 x9_1).f5).length c407_5):=(J BK408.out 5).trans rfl;have hfz32_0:=Z BK408.out 0;have hfz32_1:=Z BK408.out 1;have hfz32_2:=Z BK408.out 2;have hfz32_3:=Z BK408.out 3;have hfz32_4:=Z BK408.out 4;have hfz32_5:=Z BK408.out 5
               go_wp2_with (first | ((with_reducible refine gate_callee (f:=16) rfl ?_);refine goesM_ (some 64) Try.func16 #[.slice A407_4 ((rd_T41 l0 x9_1).f4).length c407_4,.slice A1 l1.length c1,.int .i64 x11_9,.int .i64 (wrap64 (a3 - 1))] ?_;(with_reducible refine (ih kj22 (by have:=HK1.out;have:=HJ4.out;have:=HJ9.out;have:=HJ22.out;omega) _ _ ((rd_T41 l0 x9_1).f4) _ _ l1 x11_9 (wrap64 (a3 - 1)) true _ ?side1 ?side2 ?side3 ?side4 A28.out).mono ?_);(case side1=>repeat (first | exact (Kd.C_below HR407_4.out HB.out) | (with_reducible refine Kd.C_alloc ?_ _) | (with_reducible refine Kd.C_drewN ?_ _) | (with_reducible refine Kd.C_drew ?_)));(case side2=>exact HC407_4.out);(case side3=>repeat (first | exact (Kd.C_below HR1.out HB.out) | (with_reducible refine Kd.C_alloc ?_ _) | (with_reducible refine Kd.C_drewN ?_ _) | (with_reducible refine Kd.C_drew ?_)));(case side4=>exact HC1.out);rintro e w33 ⟨rfl,hb⟩;refine ⟨_,rfl,?_⟩;have n0_:=O (blk_below (g:=gb408) (o:=.cells #[.int .i64 ((rd_T41 l0 x9_1).f0),.int .i64 ((rd_T41 l0 x9_1).f1),.int .i64 ((rd_T41 l0 x9_1).f2),.int .i64 ((rd_T41 l0 x9_1).f3),.slice A407_4 ((rd_T41 l0 x9_1).f4).length c407_4,.slice A407_5 ((rd_T41 l0 x9_1).f5).length c407_5] 41 (0,0)) (q4_ BK408) hb);have n1_:=O (below_step (q5_ HB GE408) hb);clear BK408 HB;have BK408:=n0_;have HB:=n1_;clear n0_ n1_;(try clear hb);obtain ⟨hcz34_0,hcz34_1,hcz34_2,hcz34_3,hcz34_4,hcz34_5,hfz34_0,hfz34_1,hfz34_2,hfz34_3,hfz34_4,hfz34_5⟩:=bz6_ BK408) | (go_at_call 16;(with_reducible refine (ih kj22 (by have:=HK1.out;have:=HJ4.out;have:=HJ9.out;have:=HJ22.out;omega) _ _ ((rd_T41 l0 x9_1).f5) _ _ l1 x11_9 (wrap64 (a3 - 1)) true _ ?side1 ?side2 ?side3 ?side4 A30.out).mono ?_);(case side1=>repeat (first | exact (Kd.C_below HR407_5.out HB.out) | (with_reducible refine Kd.C_alloc ?_ _) | (with_reducible refine Kd.C_drewN ?_ _) | (with_reducible refine Kd.C_drew ?_)));(case side2=>exact HC407_5.out);(case side3=>repeat (first | exact (Kd.C_below HR1.out HB.out) | (with_reducible refine Kd.C_alloc ?_ _) | (with_reducible refine Kd.C_drewN ?_ _) | (with_reducible refine Kd.C_drew ?_)));(case side4=>exact HC1.out);rintro e w35 ⟨rfl,hb⟩;have n0_:=O (blk_below (g:=gb408) (o:=.cells #[.int .i64 ((rd_T41 l0 x9_1).f0),.int .i64 ((rd_T41 l0 x9_1).f1),.int .i64 ((rd_T41 l0 x9_1).f2),.int .i64 ((rd_T41 l0 x9_1).f3),.slice A407_4 ((rd_T41 l0 x9_1).f4).length c407_4,.slice A407_5 ((rd_T41 l0 x9_1).f5).length c407_5] 41 (0,0)) (q4_ BK408) hb);have n1_:=O (below_step (q5_ HB GE408) hb);clear BK408 HB;have BK408:=n0_;have HB:=n1_;clear n0_ n1_;(try clear hb)))
               go_roundg kj22
               case measure=>have:=HK1.out;have:=HJ4.out;have:=HJ9.out;have:=HJ22.out;omega
               case rel=>exact ⟨(wrap64 (x9_1 + 1)),(by first | rfl | (simp;done) | (simp [*];done)),H',⟨by have:=HK1.out;have:=HJ4.out;have:=HJ9.out;have:=HJ22.out;omega⟩,⟨by repeat (first | (with_reducible first | exact HB.out | apply U | apply Y | apply E | refine below_set ?_ GE408.out) | exact HB.out)⟩⟩
              ·replace c31:=Bool.eq_false_iff.mpr c31;subst c31
               have H1 : (some false) = some r:=by rw [if_neg (show ¬ (false = true) by decide)] at H;exact H
               clear H;have H:=H1;clear H1;obtain rfl:=Option.some.inj H;have hcz36_0 : wc.cell? ⟨gb408,0,none⟩ = some (.int .i64 ((rd_T41 l0 x9_1).f0)):=(J BK408.out 0).trans rfl;have hcz36_1 : wc.cell? ⟨gb408,1,none⟩ = some (.int .i64 ((rd_T41 l0 x9_1).f1)):=(J BK408.out 1).trans rfl;have hcz36_2 : wc.cell? ⟨gb408,2,none⟩ = some (.int .i64 ((rd_T41 l0 x9_1).f2)):=(J BK408.out 2).trans rfl;have hcz36_3 : wc.cell? ⟨gb408,3,none⟩ = some (.int .i64 ((rd_T41 l0 x9_1).f3)):=(J BK408.out 3).trans rfl;have hcz36_4 : wc.cell? ⟨gb408,4,none⟩ = some (.slice A407_4 ((rd_T41 l0 x9_1).f4).length c407_4):=(J BK408.out 4).trans rfl;have hcz36_5 : wc.cell? ⟨gb408,5,none⟩ = some (.slice A407_5 ((rd_T41 l0 x9_1).f5).length c407_5):=(J BK408.out 5).trans rfl;have hfz36_0:=Z BK408.out 0;have hfz36_1:=Z BK408.out 1;have hfz36_2:=Z BK408.out 2;have hfz36_3:=Z BK408.out 3;have hfz36_4:=Z BK408.out 4;have hfz36_5:=Z BK408.out 5
               go_wp2_with (first | ((with_reducible refine gate_callee (f:=16) rfl ?_);refine goesM_ (some 64) Try.func16 #[.slice A407_4 ((rd_T41 l0 x9_1).f4).length c407_4,.slice A1 l1.length c1,.int .i64 x11_9,.int .i64 (wrap64 (a3 - 1))] ?_;(with_reducible refine (ih kj22 (by have:=HK1.out;have:=HJ4.out;have:=HJ9.out;have:=HJ22.out;omega) _ _ ((rd_T41 l0 x9_1).f4) _ _ l1 x11_9 (wrap64 (a3 - 1)) true _ ?side1 ?side2 ?side3 ?side4 A28.out).mono ?_);(case side1=>repeat (first | exact (Kd.C_below HR407_4.out HB.out) | (with_reducible refine Kd.C_alloc ?_ _) | (with_reducible refine Kd.C_drewN ?_ _) | (with_reducible refine Kd.C_drew ?_)));(case side2=>exact HC407_4.out);(case side3=>repeat (first | exact (Kd.C_below HR1.out HB.out) | (with_reducible refine Kd.C_alloc ?_ _) | (with_reducible refine Kd.C_drewN ?_ _) | (with_reducible refine Kd.C_drew ?_)));(case side4=>exact HC1.out);rintro e w37 ⟨rfl,hb⟩;refine ⟨_,rfl,?_⟩;have n0_:=O (blk_below (g:=gb408) (o:=.cells #[.int .i64 ((rd_T41 l0 x9_1).f0),.int .i64 ((rd_T41 l0 x9_1).f1),.int .i64 ((rd_T41 l0 x9_1).f2),.int .i64 ((rd_T41 l0 x9_1).f3),.slice A407_4 ((rd_T41 l0 x9_1).f4).length c407_4,.slice A407_5 ((rd_T41 l0 x9_1).f5).length c407_5] 41 (0,0)) (q4_ BK408) hb);have n1_:=O (below_step (q5_ HB GE408) hb);clear BK408 HB;have BK408:=n0_;have HB:=n1_;clear n0_ n1_;(try clear hb);obtain ⟨hcz38_0,hcz38_1,hcz38_2,hcz38_3,hcz38_4,hcz38_5,hfz38_0,hfz38_1,hfz38_2,hfz38_3,hfz38_4,hfz38_5⟩:=bz6_ BK408) | (go_at_call 16;(with_reducible refine (ih kj22 (by have:=HK1.out;have:=HJ4.out;have:=HJ9.out;have:=HJ22.out;omega) _ _ ((rd_T41 l0 x9_1).f5) _ _ l1 x11_9 (wrap64 (a3 - 1)) false _ ?side1 ?side2 ?side3 ?side4 A30.out).mono ?_);(case side1=>repeat (first | exact (Kd.C_below HR407_5.out HB.out) | (with_reducible refine Kd.C_alloc ?_ _) | (with_reducible refine Kd.C_drewN ?_ _) | (with_reducible refine Kd.C_drew ?_)));(case side2=>exact HC407_5.out);(case side3=>repeat (first | exact (Kd.C_below HR1.out HB.out) | (with_reducible refine Kd.C_alloc ?_ _) | (with_reducible refine Kd.C_drewN ?_ _) | (with_reducible refine Kd.C_drew ?_)));(case side4=>exact HC1.out);rintro e w39 ⟨rfl,hb⟩;have n0_:=O (blk_below (g:=gb408) (o:=.cells #[.int .i64 ((rd_T41 l0 x9_1).f0),.int .i64 ((rd_T41 l0 x9_1).f1),.int .i64 ((rd_T41 l0 x9_1).f2),.int .i64 ((rd_T41 l0 x9_1).f3),.slice A407_4 ((rd_T41 l0 x9_1).f4).length c407_4,.slice A407_5 ((rd_T41 l0 x9_1).f5).length c407_5] 41 (0,0)) (q4_ BK408) hb);have n1_:=O (below_step (q5_ HB GE408) hb);clear BK408 HB;have BK408:=n0_;have HB:=n1_;clear n0_ n1_;(try clear hb)))
               go_ret
               exact ⟨by first | rfl | (simp [errW_none,errW_some] <;> rfl) | (simp [*,errW_none,errW_some] <;> rfl),by repeat (first | (with_reducible first | exact HB.out | apply U | apply Y | apply E | refine below_set ?_ GE408.out) | exact HB.out)⟩
             ·replace c29:=Bool.eq_false_iff.mpr c29;subst c29
              have H1 : (some false) = some r:=by rw [if_neg (show ¬ (false = true) by decide)] at H;exact H
              clear H;have H:=H1;clear H1;obtain rfl:=Option.some.inj H;have hcz40_0 : wc.cell? ⟨gb408,0,none⟩ = some (.int .i64 ((rd_T41 l0 x9_1).f0)):=(J BK408.out 0).trans rfl;have hcz40_1 : wc.cell? ⟨gb408,1,none⟩ = some (.int .i64 ((rd_T41 l0 x9_1).f1)):=(J BK408.out 1).trans rfl;have hcz40_2 : wc.cell? ⟨gb408,2,none⟩ = some (.int .i64 ((rd_T41 l0 x9_1).f2)):=(J BK408.out 2).trans rfl;have hcz40_3 : wc.cell? ⟨gb408,3,none⟩ = some (.int .i64 ((rd_T41 l0 x9_1).f3)):=(J BK408.out 3).trans rfl;have hcz40_4 : wc.cell? ⟨gb408,4,none⟩ = some (.slice A407_4 ((rd_T41 l0 x9_1).f4).length c407_4):=(J BK408.out 4).trans rfl;have hcz40_5 : wc.cell? ⟨gb408,5,none⟩ = some (.slice A407_5 ((rd_T41 l0 x9_1).f5).length c407_5):=(J BK408.out 5).trans rfl;have hfz40_0:=Z BK408.out 0;have hfz40_1:=Z BK408.out 1;have hfz40_2:=Z BK408.out 2;have hfz40_3:=Z BK408.out 3;have hfz40_4:=Z BK408.out 4;have hfz40_5:=Z BK408.out 5
              go_wp2_with (first | ((with_reducible refine gate_callee (f:=16) rfl ?_);refine goesM_ (some 64) Try.func16 #[.slice A407_4 ((rd_T41 l0 x9_1).f4).length c407_4,.slice A1 l1.length c1,.int .i64 x11_9,.int .i64 (wrap64 (a3 - 1))] ?_;(with_reducible refine (ih kj22 (by have:=HK1.out;have:=HJ4.out;have:=HJ9.out;have:=HJ22.out;omega) _ _ ((rd_T41 l0 x9_1).f4) _ _ l1 x11_9 (wrap64 (a3 - 1)) false _ ?side1 ?side2 ?side3 ?side4 A28.out).mono ?_);(case side1=>repeat (first | exact (Kd.C_below HR407_4.out HB.out) | (with_reducible refine Kd.C_alloc ?_ _) | (with_reducible refine Kd.C_drewN ?_ _) | (with_reducible refine Kd.C_drew ?_)));(case side2=>exact HC407_4.out);(case side3=>repeat (first | exact (Kd.C_below HR1.out HB.out) | (with_reducible refine Kd.C_alloc ?_ _) | (with_reducible refine Kd.C_drewN ?_ _) | (with_reducible refine Kd.C_drew ?_)));(case side4=>exact HC1.out);rintro e w41 ⟨rfl,hb⟩;refine ⟨_,rfl,?_⟩;have n0_:=O (blk_below (g:=gb408) (o:=.cells #[.int .i64 ((rd_T41 l0 x9_1).f0),.int .i64 ((rd_T41 l0 x9_1).f1),.int .i64 ((rd_T41 l0 x9_1).f2),.int .i64 ((rd_T41 l0 x9_1).f3),.slice A407_4 ((rd_T41 l0 x9_1).f4).length c407_4,.slice A407_5 ((rd_T41 l0 x9_1).f5).length c407_5] 41 (0,0)) (q4_ BK408) hb);have n1_:=O (below_step (q5_ HB GE408) hb);clear BK408 HB;have BK408:=n0_;have HB:=n1_;clear n0_ n1_;(try clear hb)))
              go_ret
              exact ⟨by first | rfl | (simp [errW_none,errW_some] <;> rfl) | (simp [*,errW_none,errW_some] <;> rfl),by repeat (first | (with_reducible first | exact HB.out | apply U | apply Y | apply E | refine below_set ?_ GE408.out) | exact HB.out)⟩
       ·rw [if_neg c9] at H
        exact absurd H (by simp)
      ·rw [if_neg c8] at H
       exact absurd H (by simp)
     ·replace c7:=Bool.eq_false_iff.mpr c7;subst c7
      have H1 : (some true) = some r:=by rw [if_neg (show ¬ (false = true) by decide)] at H;exact H
      clear H;have H:=H1;clear H1;obtain rfl:=Option.some.inj H
      go_wp2
      go_ret
      exact ⟨by first | rfl | (simp [errW_none,errW_some] <;> rfl) | (simp [*,errW_none,errW_some] <;> rfl),by repeat (first | (with_reducible first | exact HB.out | apply U | apply Y | apply E) | exact HB.out)⟩
end Go.Proofs.Ythgdapgophkklaa.P

namespace Go.Proofs.Ythgdapgophkklaa.P
open Go.RowKit Go.Proofs.YthgdapgophkklaaW.PrintWords Go.Proofs.YthgdapgophkklaaW.PrintLast Go.Proofs.YthgdapgophkklaaW.PrintMore
open Go.Proofs.YthgdapgophkklaaW.PrintWords renaming Aside0.mk → O
open Go renaming World.block_lt_of_cell? → Z
attribute [local go_sem] max2_int min2_int max_two min_two max_three min_three max_four min_four
set_option linter.unusedVariables false
set_option linter.unusedSimpArgs false
mutual
def spec_WholeOk.j0 : Nat → List (List (S41)) → List Int → Bool → Option (Bool)
 | 0,_,_,_=>none
 | k + 1,x0,x1,x14=>if x14 = true then (some false) else (spec_WholeOk.l0 k x0 x1 0)
def spec_WholeOk.l0 : Nat → List (List (S41)) → List Int → Int → Option (Bool)
 | 0,_,_,_=>none
 | k + 1,x0,x1,x5=>if x5 < (x1.length : Int) then (if 0 ≤ x5 then (if (rd x1 x5) < 0 then (some false) else (if (rd x1 x5) ≥ 2 then (some false) else (spec_WholeOk.l0 k x0 x1 (wrap64 (x5 + 1))))) else (none)) else (spec_WholeOk.l1 k x0 x1 0)
def spec_WholeOk.l1 : Nat → List (List (S41)) → List Int → Int → Option (Bool)
 | 0,_,_,_=>none
 | k + 1,x0,x1,x6=>if x6 < (x0.length : Int) then (if 0 ≤ x6 then ((spec_l6Owns.f k (rd_L3 x0 x6) x1 (-1) 3).bind fun t416=>(if t416 = true then (spec_WholeOk.l1 k x0 x1 (wrap64 (x6 + 1))) else (some false))) else (none)) else (some true)
end
def spec_WholeOk.f (k : Nat) (l0 : List (List (S41))) (l1 : List Int) : Option (Bool):=(spec_ProgOk.f k l0).bind fun t412=>(if t412 = true then (spec_WholeOk.j0 k l0 l1 ((l1.length : Int) != 5)) else (spec_WholeOk.j0 k l0 l1 true))
set_option maxHeartbeats 8000000 in
set_option maxRecDepth 100000 in
theorem spec_WholeOk.calls (k : Nat) (A0 : Option Addr) (c0 : Nat) (l0 : List (List (S41))) (A1 : Option Addr) (c1 : Nat) (l1 : List Int) (r : Bool) (w : World) (hr0 : Kd.C (Kd.slice 41 k41) w A0 l0.length l0) (hc0 : l0.length ≤ c0) (hr1 : Kd.C (Kd.int .i64) w A1 l1.length l1) (hc1 : l1.length ≤ c1) (h : spec_WholeOk.f k l0 l1 = some r) :
  Calls Try.prog 6 #[.slice A0 l0.length c0,.slice A1 l1.length c1] w fun e w'=>e = .returned (.bool r) ∧ Below w.heap.size w w':=by
 have HR0:=O hr0;have HC0:=O hc0;clear hr0 hc0;have HR1:=O hr1;have HC1:=O hc1;clear hr1 hc1;have HB:=O (Below.refl w.heap.size w);have H : ((spec_ProgOk.f k l0).bind fun t412=>(if t412 = true then (spec_WholeOk.j0 k l0 l1 ((l1.length : Int) != 5)) else (spec_WholeOk.j0 k l0 l1 true))) = some r:=h;clear h;have HC3:=O H;clear H;go_enter Try.func6,Try.ntmps6
 go_upto_region 1 with (fail)
 go_cut [14] (fun v14 wc=>∃ (kq : Nat) (x14_2 : Bool),v14 = .bool x14_2 ∧ Aside0 (spec_WholeOk.j0 kq l0 l1 x14_2 = some r) ∧ Aside0 (kq ≤ k) ∧ Aside0 (Below w.heap.size w wc))
 case first =>
  have H:=HC3.out;clear HC3;replace H:=Option.bind_eq_some_iff.mp H;obtain ⟨t412,A40,H⟩:=H;replace H : (if t412 = true then (spec_WholeOk.j0 k l0 l1 ((l1.length : Int) != 5)) else (spec_WholeOk.j0 k l0 l1 true)) = some r:=H;have A4:=O A40;clear A40
  by_cases c5 : t412 = true
  ·subst c5
   have H1 : (spec_WholeOk.j0 k l0 l1 ((l1.length : Int) != 5)) = some r:=by rw [if_pos rfl] at H;exact H
   clear H;have H:=H1;clear H1;have H':=O H;clear H
   go_wp2_with (first | ((with_reducible refine gate_callee (f:=15) rfl ?_);refine goesM_ (some 8) Try.func15 #[.slice A0 l0.length c0] ?_;(with_reducible refine (spec_ProgOk.calls k _ _ l0 true _ ?side1 ?side2 A4.out).mono ?_);(case side1=>repeat (first | exact (Kd.C_below HR0.out HB.out) | (with_reducible refine Kd.C_alloc ?_ _) | (with_reducible refine Kd.C_drewN ?_ _) | (with_reducible refine Kd.C_drew ?_)));(case side2=>exact HC0.out);rintro e w6 ⟨rfl,hb⟩;refine ⟨_,rfl,?_⟩;have n0_:=O (below_step (q3_ HB) hb);clear HB;have HB:=n0_;clear n0_;(try clear hb)))
   go_meet
   case rel=>exact ⟨_,(((l1.length : Int) != 5)),(by first | rfl | (simp;done) | (simp [*];done)),H',⟨by first | omega | exact Nat.le_refl _⟩,⟨by repeat (first | (with_reducible first | exact HB.out | apply below_alloc | apply pw_below_drewN | apply below_drew1) | exact HB.out)⟩⟩
  ·replace c5:=Bool.eq_false_iff.mpr c5;subst c5
   have H1 : (spec_WholeOk.j0 k l0 l1 true) = some r:=by rw [if_neg (show ¬ (false = true) by decide)] at H;exact H
   clear H;have H:=H1;clear H1;have H':=O H;clear H
   go_wp2_with (first | ((with_reducible refine gate_callee (f:=15) rfl ?_);refine goesM_ (some 8) Try.func15 #[.slice A0 l0.length c0] ?_;(with_reducible refine (spec_ProgOk.calls k _ _ l0 false _ ?side1 ?side2 A4.out).mono ?_);(case side1=>repeat (first | exact (Kd.C_below HR0.out HB.out) | (with_reducible refine Kd.C_alloc ?_ _) | (with_reducible refine Kd.C_drewN ?_ _) | (with_reducible refine Kd.C_drew ?_)));(case side2=>exact HC0.out);rintro e w7 ⟨rfl,hb⟩;refine ⟨_,rfl,?_⟩;have n0_:=O (below_step (q3_ HB) hb);clear HB;have HB:=n0_;clear n0_;(try clear hb)))
   go_meet
   case rel=>exact ⟨_,(true),(by first | rfl | (simp;done) | (simp [*];done)),H',⟨by first | omega | exact Nat.le_refl _⟩,⟨by repeat (first | (with_reducible first | exact HB.out | apply below_alloc | apply pw_below_drewN | apply below_drew1) | exact HB.out)⟩⟩
 case rest =>
  clear HC3;(try clear c1);(try clear p2);(try clear c5);(try clear c6);obtain ⟨kq,x14_2,rfl,HA,HJ2,HB⟩:=hcut
  cases kq with
  | zero=>exact absurd HA.out (by simp [spec_WholeOk.j0])
  | succ kj2 =>
   have H:=HA.out;clear HA;simp only [spec_WholeOk.j0] at H
   by_cases c8 : x14_2 = true
   ·subst c8
    have H1 : (some false) = some r:=by rw [if_pos rfl] at H;exact H
    clear H;have H:=H1;clear H1;obtain rfl:=Option.some.inj H
    go_wp2
    go_ret
    exact ⟨by first | rfl | (simp [errW_none,errW_some] <;> rfl) | (simp [*,errW_none,errW_some] <;> rfl),by repeat (first | (with_reducible first | exact HB.out | apply below_alloc | apply pw_below_drewN | apply below_drew1) | exact HB.out)⟩
   ·replace c8:=Bool.eq_false_iff.mpr c8;subst c8
    have H1 : (spec_WholeOk.l0 kj2 l0 l1 0) = some r:=by rw [if_neg (show ¬ (false = true) by decide)] at H;exact H
    clear H;have H:=H1;clear H1;have H':=O H;clear H
    go_wp2
    go_loopg [5] kj2 (fun kq v5 w'=>∃ (x5_2 : Int),v5 = .int .i64 x5_2 ∧ Aside0 (spec_WholeOk.l0 kq l0 l1 x5_2 = some r) ∧ Aside0 (kq ≤ kj2) ∧ Aside0 (Below w.heap.size w w'))
    case atStart=>exact ⟨(0),(by first | rfl | (simp;done) | (simp [*];done)),H',⟨Nat.le_refl _⟩,⟨by repeat (first | (with_reducible first | exact HB.out | apply below_alloc | apply pw_below_drewN | apply below_drew1) | exact HB.out)⟩⟩
    case round =>
     clear H';(try clear c1);(try clear p2);(try clear c5);(try clear c6);(try clear c8);(try clear p2);obtain ⟨x5_2,rfl,HA,HK2,HB⟩:=hrel
     cases gk with
     | zero=>exact absurd HA.out (by simp [spec_WholeOk.l0])
     | succ k2 =>
      have H:=HA.out;clear HA;simp only [spec_WholeOk.l0] at H
      by_cases c9 : x5_2 < (l1.length : Int)
      ·rw [if_pos c9] at H;have c9b0 : decide (x5_2 < (l1.length : Int)) = true:=decide_eq_true c9;clear c9
       by_cases c10 : 0 ≤ x5_2
       ·rw [if_pos c10] at H;have c10b0 : decide (0 ≤ x5_2) = true:=decide_eq_true c10;clear c10
        by_cases c11 : (rd l1 x5_2) < 0
        ·rw [if_pos c11] at H;have c11b0 : decide ((rd l1 x5_2) < 0) = true:=decide_eq_true c11;clear c11;obtain rfl:=Option.some.inj H
         have p413 : 0 ≤ (x5_2 : Int):=of_decide_eq_true (by first | (with_reducible assumption) | assumption)
         have q413 : x5_2 < (l1.length : Int):=of_decide_eq_true (by first | (with_reducible assumption) | assumption)
         obtain ⟨ad413,e413,hx413_0⟩:=Kd.at_int HR1.out x5_2 p413 q413
         cases e413
         replace hx413_0:=(HB.out.cell (Z w _ hx413_0)).trans hx413_0;replace p413:=eq_true p413;replace q413:=eq_true q413
         go_wp2
         go_ret
         exact ⟨by first | rfl | (simp [errW_none,errW_some] <;> rfl) | (simp [*,errW_none,errW_some] <;> rfl),by repeat (first | (with_reducible first | exact HB.out | apply below_alloc | apply pw_below_drewN | apply below_drew1) | exact HB.out)⟩
        ·rw [if_neg c11] at H;have c11b0 : decide ((rd l1 x5_2) < 0) = false:=decide_eq_false c11;clear c11
         by_cases c12 : (rd l1 x5_2) ≥ 2
         ·rw [if_pos c12] at H;have c12b0 : decide (2 ≤ (rd l1 x5_2)) = true:=decide_eq_true c12;clear c12;obtain rfl:=Option.some.inj H
          have p413 : 0 ≤ (x5_2 : Int):=of_decide_eq_true (by first | (with_reducible assumption) | assumption)
          have q413 : x5_2 < (l1.length : Int):=of_decide_eq_true (by first | (with_reducible assumption) | assumption)
          obtain ⟨ad413,e413,hx413_0⟩:=Kd.at_int HR1.out x5_2 p413 q413
          cases e413
          replace hx413_0:=(HB.out.cell (Z w _ hx413_0)).trans hx413_0;replace p413:=eq_true p413;replace q413:=eq_true q413
          have p414 : 0 ≤ (x5_2 : Int):=of_decide_eq_true (by first | (with_reducible assumption) | assumption)
          have q414 : x5_2 < (l1.length : Int):=of_decide_eq_true (by first | (with_reducible assumption) | assumption)
          obtain ⟨ad414,e414,hx414_0⟩:=Kd.at_int HR1.out x5_2 p414 q414
          obtain rfl : ad413 = ad414:=(by injection e414)
          replace hx414_0:=(HB.out.cell (Z w _ hx414_0)).trans hx414_0;replace p414:=eq_true p414;replace q414:=eq_true q414
          go_wp2
          go_ret
          exact ⟨by first | rfl | (simp [errW_none,errW_some] <;> rfl) | (simp [*,errW_none,errW_some] <;> rfl),by repeat (first | (with_reducible first | exact HB.out | apply below_alloc | apply pw_below_drewN | apply below_drew1) | exact HB.out)⟩
         ·rw [if_neg c12] at H;have c12b0 : decide (2 ≤ (rd l1 x5_2)) = false:=decide_eq_false c12;clear c12;have H':=O H;clear H
          have p413 : 0 ≤ (x5_2 : Int):=of_decide_eq_true (by first | (with_reducible assumption) | assumption)
          have q413 : x5_2 < (l1.length : Int):=of_decide_eq_true (by first | (with_reducible assumption) | assumption)
          obtain ⟨ad413,e413,hx413_0⟩:=Kd.at_int HR1.out x5_2 p413 q413
          cases e413
          replace hx413_0:=(HB.out.cell (Z w _ hx413_0)).trans hx413_0;replace p413:=eq_true p413;replace q413:=eq_true q413
          have p414 : 0 ≤ (x5_2 : Int):=of_decide_eq_true (by first | (with_reducible assumption) | assumption)
          have q414 : x5_2 < (l1.length : Int):=of_decide_eq_true (by first | (with_reducible assumption) | assumption)
          obtain ⟨ad414,e414,hx414_0⟩:=Kd.at_int HR1.out x5_2 p414 q414
          obtain rfl : ad413 = ad414:=(by injection e414)
          replace hx414_0:=(HB.out.cell (Z w _ hx414_0)).trans hx414_0;replace p414:=eq_true p414;replace q414:=eq_true q414
          go_wp2
          go_roundg k2
          case measure=>have:=HJ2.out;have:=HK2.out;omega
          case rel=>exact ⟨(wrap64 (x5_2 + 1)),(by first | rfl | (simp;done) | (simp [*];done)),H',⟨by have:=HJ2.out;have:=HK2.out;omega⟩,⟨by repeat (first | (with_reducible first | exact HB.out | apply below_alloc | apply pw_below_drewN | apply below_drew1) | exact HB.out)⟩⟩
       ·rw [if_neg c10] at H
        exact absurd H (by simp)
      ·rw [if_neg c9] at H;have c9b0 : decide (x5_2 < (l1.length : Int)) = false:=decide_eq_false c9;clear c9;have H':=O H;clear H
       go_wp2
       go_loopg [6] k2 (fun kq v6 w'=>∃ (x6_3 : Int),v6 = .int .i64 x6_3 ∧ Aside0 (spec_WholeOk.l1 kq l0 l1 x6_3 = some r) ∧ Aside0 (kq ≤ k2) ∧ Aside0 (Below w.heap.size w w'))
       case atStart=>exact ⟨(0),(by first | rfl | (simp;done) | (simp [*];done)),H',⟨Nat.le_refl _⟩,⟨by repeat (first | (with_reducible first | exact HB.out | apply below_alloc | apply pw_below_drewN | apply below_drew1) | exact HB.out)⟩⟩
       case round =>
        clear H';(try clear c1);(try clear p2);(try clear p4);(try clear q4);(try clear hx4);(try clear c5);(try clear c6);(try clear p6);(try clear c8);(try clear c9);(try clear c9b0);(try clear c10);(try clear c10b0);(try clear c11);(try clear c11b0);(try clear c12);(try clear c12b0);(try clear hx413_0);(try clear hx414_0);(try clear p2);(try clear p413);(try clear p414);(try clear q413);(try clear q414);obtain ⟨x6_3,rfl,HA,HK3,HB⟩:=hrel
        cases gk with
        | zero=>exact absurd HA.out (by simp [spec_WholeOk.l1])
        | succ k3 =>
         have H:=HA.out;clear HA;simp only [spec_WholeOk.l1] at H
         by_cases c13 : x6_3 < (l0.length : Int)
         ·rw [if_pos c13] at H;have c13b0 : decide (x6_3 < (l0.length : Int)) = true:=decide_eq_true c13;clear c13
          by_cases c14 : 0 ≤ x6_3
          ·rw [if_pos c14] at H;have c14b0 : decide (0 ≤ x6_3) = true:=decide_eq_true c14;clear c14;replace H:=Option.bind_eq_some_iff.mp H;obtain ⟨t416,A150,H⟩:=H;replace H : (if t416 = true then (spec_WholeOk.l1 k3 l0 l1 (wrap64 (x6_3 + 1))) else (some false)) = some r:=H;have A15:=O A150;clear A150
           by_cases c16 : t416 = true
           ·subst c16
            have H1 : (spec_WholeOk.l1 k3 l0 l1 (wrap64 (x6_3 + 1))) = some r:=by rw [if_pos rfl] at H;exact H
            clear H;have H:=H1;clear H1;have H':=O H;clear H
            have p415 : 0 ≤ (x6_3 : Int):=of_decide_eq_true (by first | (with_reducible assumption) | assumption)
            have q415 : x6_3 < (l0.length : Int):=of_decide_eq_true (by first | (with_reducible assumption) | assumption)
            obtain ⟨ad415,A415_0,c415_0,e415,hx415_0,hl415_0,hi415_0⟩:=at_L3 HR0.out x6_3 p415 q415
            cases e415
            replace hx415_0:=(HB.out.cell (Z w _ hx415_0)).trans hx415_0;have HR415_0:=O hi415_0;have HC415_0:=O hl415_0;clear hi415_0 hl415_0;replace p415:=eq_true p415;replace q415:=eq_true q415
            go_wp2_with (first | ((with_reducible refine gate_callee (f:=16) rfl ?_);refine goesM_ (some 44) Try.func16 #[.slice A415_0 (rd_L3 l0 x6_3).length c415_0,.slice A1 l1.length c1,.int .i64 (-1),.int .i64 3] ?_;(with_reducible refine (spec_l6Owns.calls k3 _ _ (rd_L3 l0 x6_3) _ _ l1 (-1) 3 true _ ?side1 ?side2 ?side3 ?side4 A15.out).mono ?_);(case side1=>repeat (first | exact (Kd.C_below HR415_0.out HB.out) | (with_reducible refine Kd.C_alloc ?_ _) | (with_reducible refine Kd.C_drewN ?_ _) | (with_reducible refine Kd.C_drew ?_)));(case side2=>exact HC415_0.out);(case side3=>repeat (first | exact (Kd.C_below HR1.out HB.out) | (with_reducible refine Kd.C_alloc ?_ _) | (with_reducible refine Kd.C_drewN ?_ _) | (with_reducible refine Kd.C_drew ?_)));(case side4=>exact HC1.out);rintro e w17 ⟨rfl,hb⟩;refine ⟨_,rfl,?_⟩;have n0_:=O (below_step (q3_ HB) hb);clear HB;have HB:=n0_;clear n0_;(try clear hb)))
            go_roundg k3
            case measure=>have:=HJ2.out;have:=HK2.out;have:=HK3.out;omega
            case rel=>exact ⟨(wrap64 (x6_3 + 1)),(by first | rfl | (simp;done) | (simp [*];done)),H',⟨by have:=HJ2.out;have:=HK2.out;have:=HK3.out;omega⟩,⟨by repeat (first | (with_reducible first | exact HB.out | apply below_alloc | apply pw_below_drewN | apply below_drew1) | exact HB.out)⟩⟩
           ·replace c16:=Bool.eq_false_iff.mpr c16;subst c16
            have H1 : (some false) = some r:=by rw [if_neg (show ¬ (false = true) by decide)] at H;exact H
            clear H;have H:=H1;clear H1;obtain rfl:=Option.some.inj H
            have p415 : 0 ≤ (x6_3 : Int):=of_decide_eq_true (by first | (with_reducible assumption) | assumption)
            have q415 : x6_3 < (l0.length : Int):=of_decide_eq_true (by first | (with_reducible assumption) | assumption)
            obtain ⟨ad415,A415_0,c415_0,e415,hx415_0,hl415_0,hi415_0⟩:=at_L3 HR0.out x6_3 p415 q415
            cases e415
            replace hx415_0:=(HB.out.cell (Z w _ hx415_0)).trans hx415_0;have HR415_0:=O hi415_0;have HC415_0:=O hl415_0;clear hi415_0 hl415_0;replace p415:=eq_true p415;replace q415:=eq_true q415
            go_wp2_with (first | ((with_reducible refine gate_callee (f:=16) rfl ?_);refine goesM_ (some 44) Try.func16 #[.slice A415_0 (rd_L3 l0 x6_3).length c415_0,.slice A1 l1.length c1,.int .i64 (-1),.int .i64 3] ?_;(with_reducible refine (spec_l6Owns.calls k3 _ _ (rd_L3 l0 x6_3) _ _ l1 (-1) 3 false _ ?side1 ?side2 ?side3 ?side4 A15.out).mono ?_);(case side1=>repeat (first | exact (Kd.C_below HR415_0.out HB.out) | (with_reducible refine Kd.C_alloc ?_ _) | (with_reducible refine Kd.C_drewN ?_ _) | (with_reducible refine Kd.C_drew ?_)));(case side2=>exact HC415_0.out);(case side3=>repeat (first | exact (Kd.C_below HR1.out HB.out) | (with_reducible refine Kd.C_alloc ?_ _) | (with_reducible refine Kd.C_drewN ?_ _) | (with_reducible refine Kd.C_drew ?_)));(case side4=>exact HC1.out);rintro e w18 ⟨rfl,hb⟩;refine ⟨_,rfl,?_⟩;have n0_:=O (below_step (q3_ HB) hb);clear HB;have HB:=n0_;clear n0_;(try clear hb)))
            go_ret
            exact ⟨by first | rfl | (simp [errW_none,errW_some] <;> rfl) | (simp [*,errW_none,errW_some] <;> rfl),by repeat (first | (with_reducible first | exact HB.out | apply below_alloc | apply pw_below_drewN | apply below_drew1) | exact HB.out)⟩
          ·rw [if_neg c14] at H
           exact absurd H (by simp)
         ·rw [if_neg c13] at H;have c13b0 : decide (x6_3 < (l0.length : Int)) = false:=decide_eq_false c13;clear c13;obtain rfl:=Option.some.inj H
          go_wp2
          go_ret
          exact ⟨by first | rfl | (simp [errW_none,errW_some] <;> rfl) | (simp [*,errW_none,errW_some] <;> rfl),by repeat (first | (with_reducible first | exact HB.out | apply below_alloc | apply pw_below_drewN | apply below_drew1) | exact HB.out)⟩
end Go.Proofs.Ythgdapgophkklaa.P

namespace Go.Proofs.Ythgdapgophkklaa.P
open Go.RowKit Go.Proofs.YthgdapgophkklaaW.PrintWords Go.Proofs.YthgdapgophkklaaW.PrintLast Go.Proofs.YthgdapgophkklaaW.PrintMore
open Go.Proofs.YthgdapgophkklaaW.PrintWords renaming Aside0.mk → O
attribute [local go_sem] max2_int min2_int max_two min_two max_three min_three max_four min_four
set_option linter.unusedVariables false
set_option linter.unusedSimpArgs false
def impl_fits.f (a0 : Int) (a1 : Int) : Option (Bool):=if a0 = 0 then (some true) else (if a0 > 0 then (some (decide (a0 < a1))) else (some false))
set_option maxHeartbeats 8000000 in
set_option maxRecDepth 100000 in
theorem impl_fits.calls (a0 : Int) (a1 : Int) (r : Bool) (w : World) (h : impl_fits.f a0 a1 = some r) :
  Calls Try.prog 43 #[.int .i64 a0,.int .i64 a1] w fun e w'=>e = .returned (.bool r) ∧ Drawn0 w w':=by
 have H : (if a0 = 0 then (some true) else (if a0 > 0 then (some (decide (a0 < a1))) else (some false))) = some r:=h;clear h
 by_cases c3 : a0 = 0
 ·rw [if_pos c3] at H;have c3b0 : (a0 == 0) = true:=beq_iff_eq.mpr c3;have c3b1 : (a0 != 0) = false:=bne_eq_false_iff_eq.mpr c3;clear c3;obtain rfl:=Option.some.inj H;go_enter Try.func43,Try.ntmps43
  go_wp2
  go_ret
  exact ⟨by first | rfl | (simp;done) | (simp [*];done),by repeat (first | exact Drawn0.refl _ | apply Drawn0.step)⟩
 ·rw [if_neg c3] at H;have c3b0 : (a0 == 0) = false:=beq_eq_false_iff_ne.mpr c3;have c3b1 : (a0 != 0) = true:=bne_iff_ne.mpr c3
  by_cases c4 : a0 > 0
  ·rw [if_pos c4] at H;have c4b0 : decide (0 < a0) = true:=decide_eq_true c4;clear c4;obtain rfl:=Option.some.inj H;go_enter Try.func43,Try.ntmps43
   go_wp2
   go_ret
   exact ⟨by first | rfl | (simp;done) | (simp [*];done),by repeat (first | exact Drawn0.refl _ | apply Drawn0.step)⟩
  ·rw [if_neg c4] at H;have c4b0 : decide (0 < a0) = false:=decide_eq_false c4;clear c4;obtain rfl:=Option.some.inj H;go_enter Try.func43,Try.ntmps43
   go_wp2
   go_ret
   exact ⟨by first | rfl | (simp;done) | (simp [*];done),by repeat (first | exact Drawn0.refl _ | apply Drawn0.step)⟩
def impl_NumOk.f (a0 : Int) : Option (Bool):=if a0 ≥ (-999) then (some (decide (a0 ≤ 999))) else (some false)
set_option maxHeartbeats 8000000 in
set_option maxRecDepth 100000 in
theorem impl_NumOk.calls (a0 : Int) (r : Bool) (w : World) (h : impl_NumOk.f a0 = some r) :
  Calls Try.prog 46 #[.int .i64 a0] w fun e w'=>e = .returned (.bool r) ∧ Drawn0 w w':=by
 have H : (if a0 ≥ (-999) then (some (decide (a0 ≤ 999))) else (some false)) = some r:=h;clear h
 by_cases c2 : a0 ≥ (-999)
 ·rw [if_pos c2] at H;have c2b0 : decide ((-999) ≤ a0) = true:=decide_eq_true c2;clear c2;obtain rfl:=Option.some.inj H;go_enter Try.func46,Try.ntmps46
  go_wp2
  go_ret
  exact ⟨by first | rfl | (simp;done) | (simp [*];done),by repeat (first | exact Drawn0.refl _ | apply Drawn0.step)⟩
 ·rw [if_neg c2] at H;have c2b0 : decide ((-999) ≤ a0) = false:=decide_eq_false c2;clear c2;obtain rfl:=Option.some.inj H;go_enter Try.func46,Try.ntmps46
  go_wp2
  go_ret
  exact ⟨by first | rfl | (simp;done) | (simp [*];done),by repeat (first | exact Drawn0.refl _ | apply Drawn0.step)⟩
def impl_isOp.f (a0 : Int) : Option (Bool):=if a0 ≥ 1 then (some (decide (a0 ≤ 5))) else (some false)
set_option maxHeartbeats 8000000 in
set_option maxRecDepth 100000 in
theorem impl_isOp.calls (a0 : Int) (r : Bool) (w : World) (h : impl_isOp.f a0 = some r) :
  Calls Try.prog 47 #[.int .i64 a0] w fun e w'=>e = .returned (.bool r) ∧ Drawn0 w w':=by
 have H : (if a0 ≥ 1 then (some (decide (a0 ≤ 5))) else (some false)) = some r:=h;clear h
 by_cases c2 : a0 ≥ 1
 ·rw [if_pos c2] at H;have c2b0 : decide (1 ≤ a0) = true:=decide_eq_true c2;clear c2;obtain rfl:=Option.some.inj H;go_enter Try.func47,Try.ntmps47
  go_wp2
  go_ret
  exact ⟨by first | rfl | (simp;done) | (simp [*];done),by repeat (first | exact Drawn0.refl _ | apply Drawn0.step)⟩
 ·rw [if_neg c2] at H;have c2b0 : decide (1 ≤ a0) = false:=decide_eq_false c2;clear c2;obtain rfl:=Option.some.inj H;go_enter Try.func47,Try.ntmps47
  go_wp2
  go_ret
  exact ⟨by first | rfl | (simp;done) | (simp [*];done),by repeat (first | exact Drawn0.refl _ | apply Drawn0.step)⟩
def impl_Stmt_numberOk.f (a0_0 : Int) (a0_1 : Int) (a0_2 : Int) (a0_3 : Int) (l0_4 : List (S41)) (l0_5 : List (S41)) : Option (Bool):=if a0_0 = 1 then ((impl_NumOk.f a0_3).bind fun t454=>(some t454)) else (if a0_0 = 2 then ((impl_isOp.f a0_3).bind fun t455=>(some t455)) else (some (a0_3 == 0)))
set_option maxHeartbeats 8000000 in
set_option maxRecDepth 100000 in
theorem impl_Stmt_numberOk.calls (a0_0 : Int) (a0_1 : Int) (a0_2 : Int) (a0_3 : Int) (A0_4 : Option Addr) (c0_4 : Nat) (l0_4 : List (S41)) (A0_5 : Option Addr) (c0_5 : Nat) (l0_5 : List (S41)) (r : Bool) (w : World) (hr0_4 : Kd.C k41 w A0_4 l0_4.length l0_4) (hc0_4 : l0_4.length ≤ c0_4) (hr0_5 : Kd.C k41 w A0_5 l0_5.length l0_5) (hc0_5 : l0_5.length ≤ c0_5) (h : impl_Stmt_numberOk.f a0_0 a0_1 a0_2 a0_3 l0_4 l0_5 = some r) :
  Calls Try.prog 44 #[.agg #[.int .i64 a0_0,.int .i64 a0_1,.int .i64 a0_2,.int .i64 a0_3,.slice A0_4 l0_4.length c0_4,.slice A0_5 l0_5.length c0_5]] w fun e w'=>e = .returned (.bool r) ∧ Below w.heap.size w w':=by
 have hu41:=Try.underlying41;have HR0_4:=O hr0_4;have HC0_4:=O hc0_4;clear hr0_4 hc0_4;have HR0_5:=O hr0_5;have HC0_5:=O hc0_5;clear hr0_5 hc0_5;have HB:=O (Below.refl w.heap.size w);have H : (if a0_0 = 1 then ((impl_NumOk.f a0_3).bind fun t454=>(some t454)) else (if a0_0 = 2 then ((impl_isOp.f a0_3).bind fun t455=>(some t455)) else (some (a0_3 == 0)))) = some r:=h;clear h
 by_cases c2 : a0_0 = 1
 ·rw [if_pos c2] at H;have c2b0 : (a0_0 == 1) = true:=beq_iff_eq.mpr c2;have c2b1 : (a0_0 != 1) = false:=bne_eq_false_iff_eq.mpr c2;clear c2;replace H:=Option.bind_eq_some_iff.mp H;obtain ⟨t454,A30,H⟩:=H;replace H : (some t454) = some r:=H;have A3:=O A30;clear A30;obtain rfl:=Option.some.inj H;go_enter Try.func44,Try.ntmps44
  go_wp2_with (first | ((with_reducible refine gate_dst (N:=1) rfl ?_);refine box_event ?hg (N:=1) ?hd (cs:=#[.int .i64 a0_0,.int .i64 a0_1,.int .i64 a0_2,.int .i64 a0_3,.slice A0_4 l0_4.length c0_4,.slice A0_5 l0_5.length c0_5]) (t:=41) ?hr ?_;(case hd=>rfl);(case hg=>rfl);(case hr=>first | (go_simp;done) | (go_simp;rfl));intro gb453 hg w4 hbox hb;have n0_:=O (below_step (q3_ HB) hb);have n1_:=O (hbox);have n2_:=O ((by rw [hg];exact (below_size (q3_ HB)) : w.heap.size ≤ gb453));have n3_:=O ((by rw [hg];exact (below_size (q3_ HB)) : w.heap.size ≤ gb453));clear HB;have HB:=n0_;have BK453:=n1_;have GW453:=n2_;have GE453:=n3_;clear n0_ n1_ n2_ n3_ hb hbox hg;obtain ⟨hcz5_0,hcz5_1,hcz5_2,hcz5_3,hcz5_4,hcz5_5,hfz5_0,hfz5_1,hfz5_2,hfz5_3,hfz5_4,hfz5_5⟩:=bz6_ BK453) | ((with_reducible refine gate_callee (f:=46) rfl ?_);refine goesM_ (some 9) Try.func46 #[.int .i64 a0_3] ?_;(with_reducible refine (impl_NumOk.calls a0_3 t454 _ A3.out).mono ?_);rintro e w' ⟨rfl,⟨nd,rfl⟩⟩;refine ⟨_,rfl,?_⟩))
  go_ret
  exact ⟨by first | rfl | (simp [errW_none,errW_some] <;> rfl) | (simp [*,errW_none,errW_some] <;> rfl),by repeat (first | (with_reducible first | exact HB.out | apply below_alloc | apply pw_below_drewN | apply below_drew1 | refine below_set ?_ GE453.out) | exact HB.out)⟩
 ·rw [if_neg c2] at H;have c2b0 : (a0_0 == 1) = false:=beq_eq_false_iff_ne.mpr c2;have c2b1 : (a0_0 != 1) = true:=bne_iff_ne.mpr c2
  by_cases c6 : a0_0 = 2
  ·rw [if_pos c6] at H;have c6b0 : (a0_0 == 2) = true:=beq_iff_eq.mpr c6;have c6b1 : (a0_0 != 2) = false:=bne_eq_false_iff_eq.mpr c6;clear c6;replace H:=Option.bind_eq_some_iff.mp H;obtain ⟨t455,A70,H⟩:=H;replace H : (some t455) = some r:=H;have A7:=O A70;clear A70;obtain rfl:=Option.some.inj H;go_enter Try.func44,Try.ntmps44
   go_wp2_with (first | ((with_reducible refine gate_dst (N:=1) rfl ?_);refine box_event ?hg (N:=1) ?hd (cs:=#[.int .i64 a0_0,.int .i64 a0_1,.int .i64 a0_2,.int .i64 a0_3,.slice A0_4 l0_4.length c0_4,.slice A0_5 l0_5.length c0_5]) (t:=41) ?hr ?_;(case hd=>rfl);(case hg=>rfl);(case hr=>first | (go_simp;done) | (go_simp;rfl));intro gb453 hg w8 hbox hb;have n0_:=O (below_step (q3_ HB) hb);have n1_:=O (hbox);have n2_:=O ((by rw [hg];exact (below_size (q3_ HB)) : w.heap.size ≤ gb453));have n3_:=O ((by rw [hg];exact (below_size (q3_ HB)) : w.heap.size ≤ gb453));clear HB;have HB:=n0_;have BK453:=n1_;have GW453:=n2_;have GE453:=n3_;clear n0_ n1_ n2_ n3_ hb hbox hg;obtain ⟨hcz9_0,hcz9_1,hcz9_2,hcz9_3,hcz9_4,hcz9_5,hfz9_0,hfz9_1,hfz9_2,hfz9_3,hfz9_4,hfz9_5⟩:=bz6_ BK453) | ((with_reducible refine gate_callee (f:=47) rfl ?_);refine goesM_ (some 14) Try.func47 #[.int .i64 a0_3] ?_;(with_reducible refine (impl_isOp.calls a0_3 t455 _ A7.out).mono ?_);rintro e w' ⟨rfl,⟨nd,rfl⟩⟩;refine ⟨_,rfl,?_⟩))
   go_ret
   exact ⟨by first | rfl | (simp [errW_none,errW_some] <;> rfl) | (simp [*,errW_none,errW_some] <;> rfl),by repeat (first | (with_reducible first | exact HB.out | apply below_alloc | apply pw_below_drewN | apply below_drew1 | refine below_set ?_ GE453.out) | exact HB.out)⟩
  ·rw [if_neg c6] at H;have c6b0 : (a0_0 == 2) = false:=beq_eq_false_iff_ne.mpr c6;have c6b1 : (a0_0 != 2) = true:=bne_iff_ne.mpr c6;obtain rfl:=Option.some.inj H;go_enter Try.func44,Try.ntmps44
   go_wp2_with (first | ((with_reducible refine gate_dst (N:=1) rfl ?_);refine box_event ?hg (N:=1) ?hd (cs:=#[.int .i64 a0_0,.int .i64 a0_1,.int .i64 a0_2,.int .i64 a0_3,.slice A0_4 l0_4.length c0_4,.slice A0_5 l0_5.length c0_5]) (t:=41) ?hr ?_;(case hd=>rfl);(case hg=>rfl);(case hr=>first | (go_simp;done) | (go_simp;rfl));intro gb453 hg w10 hbox hb;have n0_:=O (below_step (q3_ HB) hb);have n1_:=O (hbox);have n2_:=O ((by rw [hg];exact (below_size (q3_ HB)) : w.heap.size ≤ gb453));have n3_:=O ((by rw [hg];exact (below_size (q3_ HB)) : w.heap.size ≤ gb453));clear HB;have HB:=n0_;have BK453:=n1_;have GW453:=n2_;have GE453:=n3_;clear n0_ n1_ n2_ n3_ hb hbox hg;obtain ⟨hcz11_0,hcz11_1,hcz11_2,hcz11_3,hcz11_4,hcz11_5,hfz11_0,hfz11_1,hfz11_2,hfz11_3,hfz11_4,hfz11_5⟩:=bz6_ BK453))
   go_ret
   exact ⟨by first | rfl | (simp [errW_none,errW_some] <;> rfl) | (simp [*,errW_none,errW_some] <;> rfl),by repeat (first | (with_reducible first | exact HB.out | apply below_alloc | apply pw_below_drewN | apply below_drew1 | refine below_set ?_ GE453.out) | exact HB.out)⟩
end Go.Proofs.Ythgdapgophkklaa.P

namespace Go.Proofs.Ythgdapgophkklaa.P
open Go.RowKit
theorem drop_rd (l : List S41) {i : Nat} (h : i < l.length) : l.drop i = rd_T41 l (i : Int) :: l.drop (i + 1):=by
 rw [List.drop_eq_getElem_cons h]
 unfold rd_T41
 rw [Int.toNat_natCast,List.getD_eq_getElem?_getD,List.getElem?_eq_getElem h]
 rfl
end Go.Proofs.Ythgdapgophkklaa.P
