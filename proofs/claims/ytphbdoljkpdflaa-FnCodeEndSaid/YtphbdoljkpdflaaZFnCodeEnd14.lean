/- Parts of the proof of FnCodeEnd: plain Lean functions of Go functions, and that the calls come to what they say; no condition beyond those that each theorem names. -/
import Derived.Test.YtphbdoljkpdflaaZFnCodeEnd5
import Derived.Test.YtphbdoljkpdflaaZFnCodeEnd13
import Derived.Test.YtphbdoljkpdflaaZFnCodeEnd12
namespace Go.Proofs.Ytphbdoljkpdflaa.P
open Go.RowKit Go.Proofs.YtphbdoljkpdflaaW.PrintWords Go.Proofs.YtphbdoljkpdflaaW.PrintLast Go.Proofs.YtphbdoljkpdflaaW.PrintMore
open Bool renaming true → O, false → Z
open Go.Proofs.YtphbdoljkpdflaaW.PrintWords renaming Aside0.mk → J
open List renaming setIfInBounds_toArray → Y, set_cons_zero → E, set_cons_succ → U
open Option renaming bind_some → G
open Go renaming World.block_lt_of_cell? → X, Act.put → Q
attribute [local go_sem] max2_int min2_int max_two min_two max_three min_three max_four min_four
set_option linter.unusedVariables false
set_option linter.unusedSimpArgs false
mutual
def spec_l4Rooms.l0 : Nat → List (S42) → List Int → Int → Option (List Int × Bool)
 | 0,_,_,_=>none
 | k + 1,x0,x4,x5=>if x5 < (x0.length : Int) then (if x4.length < 17592186044416 then (spec_l4Rooms.l0 k x0 (x4 ++ [(-1)]) (wrap64 (x5 + 1))) else (none)) else (if 0 < (x4.length : Int) then (spec_l4Rooms.l1 k x0 (x4.set (0 : Int).toNat 0) (([0] : List Int)) 0) else (none))
def spec_l4Rooms.l1 : Nat → List (S42) → List Int → List Int → Int → Option (List Int × Bool)
 | 0,_,_,_,_=>none
 | k + 1,x0,x4,x6,x7=>if x7 < (x6.length : Int) then (if 0 ≤ x7 then (if 0 ≤ (rd x6 x7) then (if (rd x6 x7) < (x0.length : Int) then (if (rd x6 x7) < (x4.length : Int) then ((spec_l4Held.f ((rd_T42 x0 (rd x6 x7)).f0) ((rd_T42 x0 (rd x6 x7)).f1) ((rd_T42 x0 (rd x6 x7)).f2) ((rd_T42 x0 (rd x6 x7)).f3) (rd x4 (rd x6 x7))).bind fun bt134=>(if bt134.2 = true then ((spec_l4Next.f x0 (rd x6 x7)).bind fun t136=>(spec_l4Rooms.l2 k x0 x4 x6 x7 bt134.1 t136 0)) else (some (x4,false)))) else (none)) else (none)) else (none)) else (none)) else (some (x4,true))
def spec_l4Rooms.l2 : Nat → List (S42) → List Int → List Int → Int → Int → List Int → Int → Option (List Int × Bool)
 | 0,_,_,_,_,_,_,_=>none
 | k + 1,x0,x4,x6,x7,x9,x11,x12=>if x12 < (x11.length : Int) then (if 0 ≤ x12 then (if 0 ≤ (rd x11 x12) then (if (rd x11 x12) < (x4.length : Int) then (if (rd x4 (rd x11 x12)) < 0 then ((some (x4.set ((rd x11 x12) : Int).toNat x9 : List Int)).bind fun y142=>(if x6.length < 17592186044416 then (if (rd y142 (rd x11 x12)) = x9 then (spec_l4Rooms.l2 k x0 y142 (x6 ++ [rd x11 x12]) x7 x9 x11 (wrap64 (x12 + 1))) else (some (y142,false))) else (none))) else (if (rd x4 (rd x11 x12)) = x9 then (spec_l4Rooms.l2 k x0 x4 x6 x7 x9 x11 (wrap64 (x12 + 1))) else (some (x4,false)))) else (none)) else (none)) else (none)) else (spec_l4Rooms.l1 k x0 x4 x6 (wrap64 (x7 + 1)))
end
def spec_l4Rooms.f (k : Nat) (l0 : List (S42)) : Option (List Int × Bool):=spec_l4Rooms.l0 k l0 (([] : List Int)) 0
def spec_l4Rooms.T12 : Bool × List (List Nat × List Nat):=(true,[([],[]),([],[]),([0,1],[0,1]),([2],[2]),([],[]),([],[]),([4,5],[4,5]),([6],[6]),([3,7],[3,7]),([8],[8]),([9],[9]),([9],[9]),([10,8,0,1,2,3,4,5,6,7,8,9,10],[10]),([11,12,0,1,2,3,4,5,6,7,8,9,10,11,12],[11])])
def spec_l4Rooms.B12 : List Nat:=[0,0,3,7,0,0,48,112,255,511,1023,1023,2047,8191]
theorem spec_l4Rooms.tab12 : rtab .any (opsOf Try.f34 12) = spec_l4Rooms.T12:=by kernel_rfl
theorem spec_l4Rooms.bits12 : waitsOk spec_l4Rooms.T12.2 spec_l4Rooms.B12 = true:=by kernel_rfl
set_option maxHeartbeats 8000000 in
set_option maxRecDepth 100000 in
theorem spec_l4Rooms.calls (k : Nat) (A0 : Option Addr) (c0 : Nat) (l0 : List (S42)) (r1 : List Int) (r2 : Bool) (w : World) (hr0 : Kd.C k42 w A0 l0.length l0) (hc0 : l0.length ≤ c0) (h : spec_l4Rooms.f k l0 = some (r1,r2)) :
  Calls Try.prog 34 #[.slice A0 l0.length c0] w fun e w'=>∃ v0_ : Value,e = .returned (.tuple #[v0_,.bool r2]) ∧ Kd.R (Kd.int .i64) 3 w' w.heap.size (fun _=>True) v0_ r1 ∧ Below w.heap.size w w':=by
 have hu42:=Try.underlying42;have HR0:=J hr0;have HC0:=J hc0;clear hr0 hc0;have HB:=J (Below.refl w.heap.size w);have H : (spec_l4Rooms.l0 k l0 (([] : List Int)) 0) = some (r1,r2):=h;clear h;obtain ⟨y121,hy121⟩ : ∃ y_ : List Int,y_ = (([] : List Int)):=⟨_,rfl⟩
 replace H : (spec_l4Rooms.l0 k l0 y121 0) = some (r1,r2):=by first | (rw [hy121];with_reducible exact H) | (have H2_:=(G _ _).symm.trans H;rw [hy121];with_reducible exact H2_) | (have H2_:=(G _ _).symm.trans H;with_reducible exact H2_) | with_reducible exact H | (rw [hy121];exact H) | exact H
 have Ny121:=J hy121;clear hy121;have H':=J H;clear H;go_enter Try.func34,Try.ntmps34
 go_wp2_with (first | ((with_reducible refine gate_dst (N:=13) rfl ?_);refine Kd.R_lit (Kd.int .i64) _ 3 ?hg (N:=13) ?hd (xs:=([] : List Int)) (inner:=[]) (ok:=fun _=>True) (okp:=fun _=>True) ?hr ?hp (fun _ hk=>hk) trivial (Below.refl _ _) (Nat.le_refl _) (by simp) ?_;(case hd=>rfl);(case hg=>rfl);(case hr=>first | (go_simp;done) | (go_simp;rfl));(case hp=>exact (Reps.none _ _));intro v122 w2 ho3 hb hg_ hnew_;clear hg_ hnew_;(first | rw [← Ny121.out] at ho3 | (simp only [Int.reduceToNat] at ho3;rw [← Ny121.out] at ho3));have n0_:=J (Kd.R_lower ho3 (below_size (q0_ HB)));have n1_:=J (below_step (q0_ HB) hb);clear HB;have HO123:=n0_;have HB:=n1_;clear n0_ n1_ hb ho3))
 go_loopg [4,5] k (fun kq v4 v5 w'=>∃ (x4_1 : List Int) (x5_1 : Int),v5 = .int .i64 x5_1 ∧ Aside0 (spec_l4Rooms.l0 kq l0 x4_1 x5_1 = some (r1,r2)) ∧ Aside0 (kq ≤ k) ∧ Aside0 (Kd.R (Kd.int .i64) 3 w' w.heap.size (fun _=>True) v4 x4_1) ∧ Aside0 (Below w.heap.size w w'))
 case atStart=>exact ⟨(y121),(0),(by first | rfl | (simp;done) | (simp [*];done)),H',⟨Nat.le_refl _⟩,⟨by (with_reducible repeat (first | apply Kd.R_alloc | apply Kd.R_drewN | apply Kd.R_drew));exact HO123.out⟩,⟨by repeat (first | (with_reducible first | exact HB.out | apply below_alloc | apply pw_below_drewN | apply below_drew1) | exact HB.out)⟩⟩
 case round =>
  clear H';(try clear p2);(try clear c3);obtain ⟨x4_1,x5_1,rfl,HA,HK1,HO_4,HB⟩:=hrel
  cases gk with
  | zero=>exact absurd HA.out (by simp [spec_l4Rooms.l0])
  | succ k1 =>
   have H:=HA.out;clear HA;simp only [spec_l4Rooms.l0] at H
   by_cases c4 : x5_1 < (l0.length : Int)
   ·rw [if_pos c4] at H;have c4b0 : decide (x5_1 < (l0.length : Int)) = true:=decide_eq_true c4;clear c4
    by_cases c5 : x4_1.length < 17592186044416
    ·rw [if_pos c5] at H;have LMc5:=J c5;clear c5;obtain ⟨y124,hy124⟩ : ∃ y_ : List Int,y_ = (x4_1 ++ [(-1)]):=⟨_,rfl⟩
     replace H : (spec_l4Rooms.l0 k1 l0 y124 (wrap64 (x5_1 + 1))) = some (r1,r2):=by first | (rw [hy124];with_reducible exact H) | (have H2_:=(G _ _).symm.trans H;rw [hy124];with_reducible exact H2_) | (have H2_:=(G _ _).symm.trans H;with_reducible exact H2_) | with_reducible exact H | (rw [hy124];exact H) | exact H
     have Ny124:=J hy124;clear hy124;have H':=J H;clear H
     go_wp2_with (first | ((with_reducible refine gate_builtin (b:=.append) (xs:=#[.tmp 20,.tmp 21]) rfl ?_);at_builtin;refine Kd.R_append (Kd.int .i64) (w0:=w) w.heap.size rfl (.tmp 20) (.tmp 21) 51 3 (.int .i64 0) 8 rfl Try.underlying51 info3 rfl (by decide) (by omega) u4 x4_1 (-1) [.int .i64 (-1)] (fun _=>True) (fun _=>False) rfl rfl ?aP (fun _ hk=>hk.elim) ?aF ?aO ?aB ?aS ?aL ?_;(case aP=>exact rfl);(case aB=>exact q0_ HB);(case aF=>exact (fun _ _=>trivial));(case aO=>exact q3_ HO_4);(case aS=>exact (below_size (q0_ HB)));(case aL=>have:=LMc5.out;omega);intro v125 w6 ho hb hg hat;rw [← Ny124.out] at ho;have n0_:=J (hb);have n1_:=J (ho);clear HB HO_4;have HB:=n0_;have HO126:=n1_;clear n0_ n1_ ho hb hg hat))
     go_roundg k1
     case measure=>have:=HK1.out;omega
     case rel=>exact ⟨(y124),(wrap64 (x5_1 + 1)),(by first | rfl | (simp;done) | (simp [*];done)),H',⟨by have:=HK1.out;omega⟩,⟨by (with_reducible repeat (first | apply Kd.R_alloc | apply Kd.R_drewN | apply Kd.R_drew));exact HO126.out⟩,⟨by repeat (first | (with_reducible first | exact HB.out | apply below_alloc | apply pw_below_drewN | apply below_drew1) | exact HB.out)⟩⟩
    ·rw [if_neg c5] at H
     exact absurd H (by simp)
   ·rw [if_neg c4] at H;have c4b0 : decide (x5_1 < (l0.length : Int)) = false:=decide_eq_false c4;clear c4
    by_cases c7 : 0 < (x4_1.length : Int)
    ·rw [if_pos c7] at H;have c7b0 : decide (0 < (x4_1.length : Int)) = true:=decide_eq_true c7
     have c7b1 : decide (0 < x4_1.length) = true:=decide_eq_true (by omega)
     clear c7;obtain ⟨y127,hy127⟩ : ∃ y_ : List Int,y_ = (x4_1.set (0 : Int).toNat 0):=⟨_,rfl⟩
     replace H : (spec_l4Rooms.l1 k1 l0 y127 (([0] : List Int)) 0) = some (r1,r2):=by first | (rw [hy127];with_reducible exact H) | (have H2_:=(G _ _).symm.trans H;rw [hy127];with_reducible exact H2_) | (have H2_:=(G _ _).symm.trans H;with_reducible exact H2_) | with_reducible exact H | (rw [hy127];exact H) | exact H
     have Ny127:=J hy127;clear hy127;obtain ⟨y128,hy128⟩ : ∃ y_ : List Int,y_ = (([0] : List Int)):=⟨_,rfl⟩
     replace H : (spec_l4Rooms.l1 k1 l0 y127 y128 0) = some (r1,r2):=by first | (rw [hy128];with_reducible exact H) | (have H2_:=(G _ _).symm.trans H;rw [hy128];with_reducible exact H2_) | (have H2_:=(G _ _).symm.trans H;with_reducible exact H2_) | with_reducible exact H | (rw [hy128];exact H) | exact H
     have Ny128:=J hy128;clear hy128;have H':=J H;clear H
     have p8 : 0 ≤ (0 : Int):=(by omega)
     have q8 : (0 : Int) < ((x4_1.length : Int) : Int):=of_decide_eq_true (by first | (with_reducible assumption) | assumption)
     have qi8 : (0 < x4_1.length) = True:=eq_true (by omega)
     obtain ⟨go8,co8,eo8,gb8,gl8,cl8,HG8⟩:=Kd.R_form HO_4.out (by omega)
     (first | cases eo8 | (injection eo8 with ea_ en_ ec_;(first | subst ea_ | (injection ea_ with ea_;subst ea_));subst ec_;clear en_))
     have GB8:=J gb8;have GG8:=J HG8;clear gb8 gl8 HG8;obtain ⟨hx8_0,hf8_0⟩:=Kd.R_celln 0 HO_4.out (0 : Int) p8 q8
     (try rw [show ((0 : Int)).toNat = 0 from rfl] at hx8_0)
     (try simp only [Nat.reduceMul,Nat.zero_mul,Nat.zero_add,Nat.reduceAdd] at hx8_0)
     (try rw [show ((0 : Int)).toNat = 0 from rfl] at hf8_0)
     (try simp only [Nat.reduceMul,Nat.zero_mul,Nat.zero_add,Nat.reduceAdd] at hf8_0)
     replace p8:=eq_true p8;replace q8:=eq_true q8;have HP9:=Kd.R_putg HO_4.out (0 : Int) 0
     go_wp2_with (first | ((with_reducible refine gate_store (t:=3) (p:=24) rfl ?_);refine store_event (t:=3) (p:=24) (v:=?vo_w10) (w1:=(wr.setCell ⟨go8,(0 : Int).toNat,none⟩ (.int .i64 0))) ?hg ?ho ?hn ?hr ?_;(case ho=>rfl);(case hg=>rfl);(case hn=>rfl);(case hr=>first | (go_simp;done) | (go_simp;rfl));intro w10 hw;have hg : wr.grownBy w10 (some go8):=(by rw [hw];exact HP9.2);have hp_ : Kd.R (Kd.int .i64) 3 w10 w.heap.size (fun _=>True) (.slice (some ⟨go8,0,none⟩) x4_1.length co8) y127:=(by rw [hw,Ny127.out];exact HP9.1);clear HP9;have n0_:=J (hp_);have n1_:=J ((by rw [hw];exact below_set (HB.out) GB8.out : Below w.heap.size w w10));clear HO_4 HB;have HO_4:=n0_;have HB:=n1_;clear n0_ n1_ hg hw hp_) | ((with_reducible refine gate_dst (N:=25) rfl ?_);refine Kd.R_lit (Kd.int .i64) _ 3 ?hg (N:=25) ?hd (xs:=([0] : List Int)) (inner:=[.int .i64 0]) (ok:=fun _=>True) (okp:=fun _=>True) ?hr ?hp (fun _ hk=>hk) trivial (Below.refl _ _) (Nat.le_refl _) (by simp) ?_;(case hd=>rfl);(case hg=>rfl);(case hr=>first | (go_simp;done) | (go_simp;rfl));(case hp=>exact (Reps.one (show Kd.M (Kd.int .i64) _ _ _ 0 [.int .i64 0] from rfl) (Reps.none _ _)));intro v129 w11 ho12 hb hg_ hnew_;clear hg_ hnew_;(first | rw [← Ny128.out] at ho12 | (simp only [Int.reduceToNat] at ho12;rw [← Ny128.out] at ho12));have n0_:=J (Kd.R_elder' (q3_ HO_4) (Kd.R_base ho12) hb);have n1_:=J (Kd.R_lower (Kd.R_new' ho12 (Kd.R_lt (q3_ HO_4))) (below_size (q0_ HB)));have n2_:=J (below_step (q0_ HB) hb);clear HO_4 HB;have HO_4:=n0_;have HO130:=n1_;have HB:=n2_;clear n0_ n1_ n2_ hb ho12))
     go_loopg [6,7] k1 (fun kq v6 v7 w'=>∃ (x4_2 : List Int) (x6_2 : List Int) (x7_2 : Int),v7 = .int .i64 x7_2 ∧ Aside0 (spec_l4Rooms.l1 kq l0 x4_2 x6_2 x7_2 = some (r1,r2)) ∧ Aside0 (kq ≤ k1) ∧ Aside0 (Kd.R (Kd.int .i64) 3 w' w.heap.size (fun k_=>some k_ ≠ (v6 : Value).ownBlock) (.slice (some ⟨go8,0,none⟩) x4_1.length co8) x4_2) ∧ Aside0 (Kd.R (Kd.int .i64) 3 w' w.heap.size (fun k_=>some k_ ≠ ((.slice (some ⟨go8,0,none⟩) x4_1.length co8) : Value).ownBlock) v6 x6_2) ∧ Aside0 (Below w.heap.size w w'))
     case atStart=>exact ⟨(y127),(y128),(0),(by first | rfl | (simp;done) | (simp [*];done)),H',⟨Nat.le_refl _⟩,⟨by (with_reducible repeat (first | apply Kd.R_alloc | apply Kd.R_drewN | apply Kd.R_drew));exact Kd.R_mono HO_4.out (fun _ hk=>hk.2)⟩,⟨by (with_reducible repeat (first | apply Kd.R_alloc | apply Kd.R_drewN | apply Kd.R_drew));exact Kd.R_mono HO130.out (fun _ hk=>hk.2)⟩,⟨by repeat (first | (with_reducible first | exact HB.out | apply below_alloc | apply pw_below_drewN | apply below_drew1) | exact HB.out)⟩⟩
     case round =>
      clear H';(try clear p2);(try clear c3);(try clear c4);(try clear c4b0);(try clear c5);(try clear p6);(try clear c7);(try clear c7b0);(try clear c7b1);(try clear p8);(try clear q8);(try clear hx8);(try clear qi8);(try clear hf8);(try clear hx8_0);(try clear p2);(try clear p8);(try clear q8);obtain ⟨x4_2,x6_2,x7_2,rfl,HA,HK2,HO_4,HO_6,HB⟩:=hrel;have hl4_2:=(Kd.R_reads' HO_4.out).1;rw [hl4_2] at HO_4
      (try simp only [hl4_2])
      (try simp only [hl4_2] at HO_6)
      cases gk with
      | zero=>exact absurd HA.out (by simp [spec_l4Rooms.l1])
      | succ k2 =>
       have H:=HA.out;clear HA;simp only [spec_l4Rooms.l1] at H
       by_cases c13 : x7_2 < (x6_2.length : Int)
       ·rw [if_pos c13] at H;have c13b0 : decide (x7_2 < (x6_2.length : Int)) = true:=decide_eq_true c13;clear c13
        by_cases c14 : 0 ≤ x7_2
        ·rw [if_pos c14] at H;have c14b0 : decide (0 ≤ x7_2) = true:=decide_eq_true c14;clear c14
         by_cases c15 : 0 ≤ (rd x6_2 x7_2)
         ·rw [if_pos c15] at H;have c15b0 : decide (0 ≤ (rd x6_2 x7_2)) = true:=decide_eq_true c15;clear c15
          by_cases c16 : (rd x6_2 x7_2) < (l0.length : Int)
          ·rw [if_pos c16] at H;have c16b0 : decide ((rd x6_2 x7_2) < (l0.length : Int)) = true:=decide_eq_true c16;clear c16
           by_cases c17 : (rd x6_2 x7_2) < (x4_2.length : Int)
           ·rw [if_pos c17] at H;have c17b0 : decide ((rd x6_2 x7_2) < (x4_2.length : Int)) = true:=decide_eq_true c17;clear c17;replace H:=Option.bind_eq_some_iff.mp H;obtain ⟨⟨t134,t135⟩,A180,H⟩:=H;replace H : (if t135 = true then ((spec_l4Next.f l0 (rd x6_2 x7_2)).bind fun t136=>(spec_l4Rooms.l2 k2 l0 x4_2 x6_2 x7_2 t134 t136 0)) else (some (x4_2,false))) = some (r1,r2):=H;have A18:=J A180;clear A180
            by_cases c19 : t135 = true
            ·subst c19
             have H1 : ((spec_l4Next.f l0 (rd x6_2 x7_2)).bind fun t136=>(spec_l4Rooms.l2 k2 l0 x4_2 x6_2 x7_2 t134 t136 0)) = some (r1,r2):=by rw [if_pos rfl] at H;exact H
             clear H;have H:=H1;clear H1;replace H:=Option.bind_eq_some_iff.mp H;obtain ⟨t136,A200,H⟩:=H;replace H : (spec_l4Rooms.l2 k2 l0 x4_2 x6_2 x7_2 t134 t136 0) = some (r1,r2):=H;have A20:=J A200;clear A200;have H':=J H;clear H;obtain ⟨Ao21,co21,eo21⟩:=Kd.R_slice HO_6.out;subst eo21
             have p131 : 0 ≤ (x7_2 : Int):=of_decide_eq_true (by first | (with_reducible assumption) | assumption)
             have q131 : x7_2 < (x6_2.length : Int):=of_decide_eq_true (by first | (with_reducible assumption) | assumption)
             obtain ⟨ad131,e131,hx131_0⟩:=Kd.at_int (Kd.R_reads' HO_6.out).2.2 x7_2 p131 q131
             cases e131
             replace p131:=eq_true p131;replace q131:=eq_true q131
             try go_wp2
             have n0_:=J (Kd.R_drew HO_4.out);have n1_:=J (Kd.R_drew HO_6.out);have n2_:=J (below_drew1 HB.out);clear HO_4 HO_6 HB;have HO_4:=n0_;have HO_6:=n1_;have HB:=n2_;clear n0_ n1_ n2_
             have p132 : 0 ≤ ((rd x6_2 x7_2) : Int):=of_decide_eq_true (by first | (with_reducible assumption) | assumption)
             have q132 : (rd x6_2 x7_2) < (l0.length : Int):=of_decide_eq_true (by first | (with_reducible assumption) | assumption)
             obtain ⟨ad132,e132,hx132_0,hx132_1,hx132_2,hx132_3⟩:=at_T42 HR0.out (rd x6_2 x7_2) p132 q132;have hw132_3:=hx132_3;have hw132_2:=hx132_2;have hw132_1:=hx132_1;have hw132_0:=hx132_0
             cases e132
             replace hx132_0:=(HB.out.cell (X w _ hx132_0)).trans hx132_0;replace hx132_1:=(HB.out.cell (X w _ hx132_1)).trans hx132_1;replace hx132_2:=(HB.out.cell (X w _ hx132_2)).trans hx132_2;replace hx132_3:=(HB.out.cell (X w _ hx132_3)).trans hx132_3;replace p132:=eq_true p132;replace q132:=eq_true q132
             have p133 : 0 ≤ ((rd x6_2 x7_2) : Int):=of_decide_eq_true (by first | (with_reducible assumption) | assumption)
             have q133 : (rd x6_2 x7_2) < (x4_2.length : Int):=of_decide_eq_true (by first | (with_reducible assumption) | assumption)
             obtain ⟨ad133,e133,hx133_0⟩:=Kd.at_int (Kd.R_reads' HO_4.out).2.2 (rd x6_2 x7_2) p133 q133
             obtain rfl : (⟨go8,0,none⟩ : Addr) = ad133:=(by injection e133)
             (first | simp only [add_plain] at hx133_0 | simp only [add_at] at hx133_0 | simp only [Addr.add,Nat.zero_add] at hx133_0 | skip)
             replace p133:=eq_true p133;replace q133:=eq_true q133
             refine start_ (n:=14) (S:=fun w'=>w'.cell? (ad132.add (((rd x6_2 x7_2)).toNat * 4)) = some (.int .i64 ((rd_T42 l0 (rd x6_2 x7_2)).f0)) ∧ w'.cell? ⟨(ad132.add (((rd x6_2 x7_2)).toNat * 4)).block,(ad132.add (((rd x6_2 x7_2)).toNat * 4)).off + 1,none⟩ = some (.int .i64 ((rd_T42 l0 (rd x6_2 x7_2)).f1)) ∧ w'.cell? ⟨(ad132.add (((rd x6_2 x7_2)).toNat * 4)).block,(ad132.add (((rd x6_2 x7_2)).toNat * 4)).off + 2,none⟩ = some (.int .i64 ((rd_T42 l0 (rd x6_2 x7_2)).f2)) ∧ w'.cell? ⟨(ad132.add (((rd x6_2 x7_2)).toNat * 4)).block,(ad132.add (((rd x6_2 x7_2)).toNat * 4)).off + 3,none⟩ = some (.int .i64 ((rd_T42 l0 (rd x6_2 x7_2)).f3)) ∧ w'.cell? ⟨go8,((rd x6_2 x7_2)).toNat,none⟩ = some (.int .i64 (rd x4_2 (rd x6_2 x7_2)))) (ds:=[]) #[Z,Z,Z,Z,Z,Z,Z,Z,Z,Z,Z,Z,Z,Z] (by kernel_rfl) rfl rfl ⟨((HB.out.cell (X w _ hw132_0)).trans hw132_0),((HB.out.cell (X w _ hw132_1)).trans hw132_1),((HB.out.cell (X w _ hw132_2)).trans hw132_2),((HB.out.cell (X w _ hw132_3)).trans hw132_3),hx133_0⟩ (fun hHeld=>?_);refine with_tabW spec_l4Rooms.tab12 spec_l4Rooms.bits12 (fun HT_ HW_=>?_)
             generalize wr.drew = w22 at HO_4 HO_6 HB hx132_0 hx132_1 hx132_2 hx132_3 hx133_0 hHeld ⊢
             refine pure_ (i:=0) (N:=some 37) (v:=?_) (a':=?_) #[O,Z,Z,Z,Z,Z,Z,Z,Z,Z,Z,Z,Z,Z] rfl rfl (any_of HT_.out (by kernel_rfl)) (fun _ _ _ h=>h) (Or.inl ⟨by rfl,?_⟩) ?_ ?_;rotate_left;(intro w';go_simp;with_reducible rfl);rotate_left;((try simp only [Q,Y,E,U,i64_w,i32_w]);rfl)
             refine pure_ (i:=1) (N:=some 38) (v:=?_) (a':=?_) #[O,O,Z,Z,Z,Z,Z,Z,Z,Z,Z,Z,Z,Z] rfl rfl (any_of HT_.out (by kernel_rfl)) (fun _ _ _ h=>h) (Or.inl ⟨by rfl,?_⟩) ?_ ?_;rotate_left;(intro w';go_simp;with_reducible rfl);rotate_left;((try simp only [Q,Y,E,U,i64_w,i32_w]);rfl)
             refine pure_ (i:=2) (N:=some 39) (v:=?_) (a':=?_) #[O,O,O,Z,Z,Z,Z,Z,Z,Z,Z,Z,Z,Z] rfl rfl (any_of HT_.out (by kernel_rfl)) (fun _ _ _ h=>h) (Or.inl ⟨by rfl,?_⟩) ?_ ?_;rotate_left;(intro w';go_simp;with_reducible rfl);rotate_left;((try simp only [Q,Y,E,U,i64_w,i32_w]);rfl)
             refine pure_ (i:=4) (N:=some 41) (v:=?_) (a':=?_) #[O,O,O,Z,O,Z,Z,Z,Z,Z,Z,Z,Z,Z] rfl rfl (any_of HT_.out (by kernel_rfl)) (fun _ _ _ h=>h) (Or.inl ⟨by rfl,?_⟩) ?_ ?_;rotate_left;(intro w';go_simp;with_reducible rfl);rotate_left;((try simp only [Q,Y,E,U,i64_w,i32_w]);rfl)
             refine pure_ (i:=5) (N:=some 42) (v:=?_) (a':=?_) #[O,O,O,Z,O,O,Z,Z,Z,Z,Z,Z,Z,Z] rfl rfl (any_of HT_.out (by kernel_rfl)) (fun _ _ _ h=>h) (Or.inl ⟨by rfl,?_⟩) ?_ ?_;rotate_left;(intro w';go_simp;with_reducible rfl);rotate_left;((try simp only [Q,Y,E,U,i64_w,i32_w]);rfl)
             refine pure_ (i:=6) (N:=some 43) (v:=?_) (a':=?_) #[O,O,O,Z,O,O,O,Z,Z,Z,Z,Z,Z,Z] rfl rfl (any_of HT_.out (by kernel_rfl)) (fun _ _ _ h=>h) (Or.inl ⟨by rfl,?_⟩) ?_ ?_;rotate_left;(intro w';go_simp;with_reducible rfl);rotate_left;((try simp only [Q,Y,E,U,i64_w,i32_w]);rfl)
             refine take_ (i:=3) (N:=some 40) (v:=?_) (a':=?_) #[O,O,O,O,O,O,O,Z,Z,Z,Z,Z,Z,Z] rfl rfl (take_ofW HT_.out HW_.out (by kernel_rfl)) (fun _ _ _ h=>h) (Or.inl ⟨by rfl,?_⟩) hHeld ?_ ?_;rotate_left;(rintro w' ⟨s0,s1,s2,s3,s4⟩;go_simp;with_reducible rfl);rotate_left;((try simp only [Q,Y,E,U,i64_w,i32_w]);rfl)
             refine take_ (i:=7) (N:=some 44) (v:=?_) (a':=?_) #[O,O,O,O,O,O,O,O,Z,Z,Z,Z,Z,Z] rfl rfl (take_ofW HT_.out HW_.out (by kernel_rfl)) (fun _ _ _ h=>h) (Or.inl ⟨by rfl,?_⟩) hHeld ?_ ?_;rotate_left;(rintro w' ⟨s0,s1,s2,s3,s4⟩;go_simp;with_reducible rfl);rotate_left;((try simp only [Q,Y,E,U,i64_w,i32_w]);rfl)
             refine one_ (i:=8) (N:=some 45) #[O,O,O,O,O,O,O,O,O,Z,Z,Z,Z,Z] rfl rfl (one_of HT_.out (by kernel_rfl)) (by decide) (fun K hK=>?_)
             refine goes_ Try.func54 (by kernel_rfl) rfl #[.agg #[.int .i64 ((rd_T42 l0 (rd x6_2 x7_2)).f0),.int .i64 ((rd_T42 l0 (rd x6_2 x7_2)).f1),.int .i64 ((rd_T42 l0 (rd x6_2 x7_2)).f2),.int .i64 ((rd_T42 l0 (rd x6_2 x7_2)).f3)],.int .i64 (rd x4_2 (rd x6_2 x7_2))] (by rfl) rfl rfl (by (try simp only [List.map_toArray,List.map_cons,List.map_nil]);first | done | rfl | (simp only [List.length_drop,List.length_take];rfl)) ?_
             with_reducible refine (spec_l4Held.calls ((rd_T42 l0 (rd x6_2 x7_2)).f0) ((rd_T42 l0 (rd x6_2 x7_2)).f1) ((rd_T42 l0 (rd x6_2 x7_2)).f2) ((rd_T42 l0 (rd x6_2 x7_2)).f3) (rd x4_2 (rd x6_2 x7_2)) t134 true _ A18.out).mono ?_
             rintro e w23 ⟨rfl,hb⟩
             have HS4_:=(hb.cell (X _ _ (hHeld.2.2.2.2))).trans (hHeld.2.2.2.2)
             refine ⟨_,rfl,?_⟩
             have n0_:=J (Kd.R_below (q3_ HO_4) hb)
             have n1_:=J (Kd.R_below (q3_ HO_6) hb)
             have n2_:=J (below_step (q0_ HB) hb)
             clear HO_4 HO_6 HB;have HO_4:=n0_;have HO_6:=n1_;have HB:=n2_;clear n0_ n1_ n2_
             refine hK.out _ _ ⟨((HB.out.cell (X w _ hw132_0)).trans hw132_0),((HB.out.cell (X w _ hw132_1)).trans hw132_1),((HB.out.cell (X w _ hw132_2)).trans hw132_2),((HB.out.cell (X w _ hw132_3)).trans hw132_3),HS4_⟩ (fun hHeld=>?_)
             clear hK K
             refine norm_ (a':=?_) ?_ ?_
             rotate_left
             ·show Q _ (some 45) _ = _
              simp only [Q,Y,E,U,i64_w,i32_w]
              rfl
             refine pure_ (i:=9) (N:=some 36) (v:=?_) (a':=?_) #[O,O,O,O,O,O,O,O,O,O,Z,Z,Z,Z] rfl rfl (any_of HT_.out (by kernel_rfl)) (fun _ _ _ h=>h) (Or.inl ⟨by rfl,?_⟩) ?_ ?_;rotate_left;(intro w';go_simp;with_reducible rfl);rotate_left;((try simp only [Q,Y,E,U,i64_w,i32_w]);rfl)
             refine pure_ (i:=10) (N:=some 46) (v:=?_) (a':=?_) #[O,O,O,O,O,O,O,O,O,O,O,Z,Z,Z] rfl rfl (any_of HT_.out (by kernel_rfl)) (fun _ _ _ h=>h) (Or.inl ⟨by rfl,?_⟩) ?_ ?_;rotate_left;(intro w';go_simp;with_reducible rfl);rotate_left;((try simp only [Q,Y,E,U,i64_w,i32_w]);rfl)
             refine pure_ (i:=11) (N:=some 47) (v:=?_) (a':=?_) #[O,O,O,O,O,O,O,O,O,O,O,O,Z,Z] rfl rfl (any_of HT_.out (by kernel_rfl)) (fun _ _ _ h=>h) (Or.inl ⟨by rfl,?_⟩) ?_ ?_;rotate_left;(intro w';go_simp;with_reducible rfl);rotate_left;((try simp only [Q,Y,E,U,i64_w,i32_w]);rfl)
             refine pure_ (i:=12) (N:=some 9) (v:=?_) (a':=?_) #[O,O,O,O,O,O,O,O,O,O,O,O,O,Z] rfl rfl (any_of HT_.out (by kernel_rfl)) (fun _ _ _ h=>h) (Or.inl ⟨by rfl,?_⟩) ?_ ?_;rotate_left;(intro w';go_simp;with_reducible rfl);rotate_left;((try simp only [Q,Y,E,U,i64_w,i32_w]);rfl)
             refine pure_ (i:=13) (N:=some 10) (v:=?_) (a':=?_) #[O,O,O,O,O,O,O,O,O,O,O,O,O,O] rfl rfl (any_of HT_.out (by kernel_rfl)) (fun _ _ _ h=>h) (Or.inl ⟨by rfl,?_⟩) ?_ ?_;rotate_left;(intro w';go_simp;with_reducible rfl);rotate_left;((try simp only [Q,Y,E,U,i64_w,i32_w]);rfl)
             refine done_ (done_of HT_.out (by kernel_rfl)) ?_
             try go_wp2_with (first | ((with_reducible refine gate_callee (f:=55) rfl ?_);refine goesM_ (some 53) Try.func55 #[.slice (some ad132) l0.length c0,.int .i64 (rd x6_2 x7_2)] ?_;(with_reducible refine (spec_l4Next.calls _ _ l0 (rd x6_2 x7_2) t136 _ ?side1 ?side2 A20.out).mono ?_);(case side1=>repeat (first | exact (Kd.C_below HR0.out HB.out) | (with_reducible refine Kd.C_alloc ?_ _) | (with_reducible refine Kd.C_drewN ?_ _) | (with_reducible refine Kd.C_drew ?_)));(case side2=>exact HC0.out);rintro e w24 ⟨v137,rfl,ho0,hb⟩;refine ⟨_,rfl,?_⟩;have n0_:=J (Kd.R_elder' (q3_ HO_4) (Kd.R_base ho0) hb);have n1_:=J (Kd.R_elder' (q3_ HO_6) (Kd.R_base ho0) hb);have n2_:=J (Kd.R_lower (Kd.R_new' (Kd.R_new' ho0 (Kd.R_lt (q3_ HO_4))) (Kd.R_lt (q3_ HO_6))) (below_size (q0_ HB)));have n3_:=J (below_step (q0_ HB) hb);clear HO_4 HO_6 HB;have HO_4:=n0_;have HO_6:=n1_;have HO138:=n2_;have HB:=n3_;clear n0_ n1_ n2_ n3_;(try clear hb);(try clear ho0)))
             go_loopg [6,12] k2 (fun kq v6 v12 w'=>∃ (x4_3 : List Int) (x6_3 : List Int) (x12_3 : Int),v12 = .int .i64 x12_3 ∧ Aside0 (spec_l4Rooms.l2 kq l0 x4_3 x6_3 x7_2 t134 t136 x12_3 = some (r1,r2)) ∧ Aside0 (kq ≤ k2) ∧ Aside0 (Kd.R (Kd.int .i64) 3 w' w.heap.size (fun k_=>some k_ ≠ (v6 : Value).ownBlock ∧ some k_ ≠ (v137 : Value).ownBlock) (.slice (some ⟨go8,0,none⟩) x4_2.length co8) x4_3) ∧ Aside0 (Kd.R (Kd.int .i64) 3 w' w.heap.size (fun k_=>some k_ ≠ ((.slice (some ⟨go8,0,none⟩) x4_2.length co8) : Value).ownBlock ∧ some k_ ≠ (v137 : Value).ownBlock) v6 x6_3) ∧ Aside0 (Kd.R (Kd.int .i64) 3 w' w.heap.size (fun k_=>some k_ ≠ ((.slice (some ⟨go8,0,none⟩) x4_2.length co8) : Value).ownBlock ∧ some k_ ≠ (v6 : Value).ownBlock) v137 t136) ∧ Aside0 (Below w.heap.size w w'))
             case atStart=>exact ⟨(x4_2),(x6_2),(0),(by first | rfl | (simp;done) | (simp [*];done)),H',⟨Nat.le_refl _⟩,⟨by (try simp only [hl4_2]);(with_reducible repeat (first | apply Kd.R_alloc | apply Kd.R_drewN | apply Kd.R_drew));exact HO_4.out⟩,⟨by (try simp only [hl4_2]);(with_reducible repeat (first | apply Kd.R_alloc | apply Kd.R_drewN | apply Kd.R_drew));exact HO_6.out⟩,⟨by (try simp only [hl4_2]);(with_reducible repeat (first | apply Kd.R_alloc | apply Kd.R_drewN | apply Kd.R_drew));exact Kd.R_mono HO138.out (fun _ hk=>⟨hk.1.2,hk.2⟩)⟩,⟨by repeat (first | (with_reducible first | exact HB.out | apply below_alloc | apply pw_below_drewN | apply below_drew1) | exact HB.out)⟩⟩
             case round =>
              clear H';(try clear c1);(try clear p1);(try clear q1);(try clear hx1);(try clear p2);(try clear c3);(try clear c4);(try clear c4b0);(try clear c5);(try clear p6);(try clear c7);(try clear c7b0);(try clear c7b1);(try clear p8);(try clear q8);(try clear hx8);(try clear qi8);(try clear hf8);(try clear c13);(try clear c13b0);(try clear p13);(try clear q13);(try clear hx13);(try clear c14);(try clear c14b0);(try clear c15);(try clear c15b0);(try clear c16);(try clear c16b0);(try clear c17);(try clear c17b0);(try clear c19);(try clear hx131_0);(try clear hx132_0);(try clear hx132_1);(try clear hx132_2);(try clear hx132_3);(try clear hx133_0);(try clear hx8_0);(try clear p131);(try clear p132);(try clear p133);(try clear p2);(try clear p6);(try clear p8);(try clear q131);(try clear q132);(try clear q133);(try clear q8);obtain ⟨x4_3,x6_3,x12_3,rfl,HA,HK3,HO_4,HO_6,HO_11,HB⟩:=hrel;have hl4_3:=(Kd.R_reads' HO_4.out).1;rw [hl4_3] at HO_4
              (try simp only [hl4_3])
              (try simp only [hl4_3] at HO_6)
              (try simp only [hl4_3] at HO_11)
              cases gk with
              | zero=>exact absurd HA.out (by simp [spec_l4Rooms.l2])
              | succ k3 =>
               have H:=HA.out;clear HA;simp only [spec_l4Rooms.l2] at H
               by_cases c25 : x12_3 < (t136.length : Int)
               ·rw [if_pos c25] at H;have c25b0 : decide (x12_3 < (t136.length : Int)) = true:=decide_eq_true c25;clear c25
                by_cases c26 : 0 ≤ x12_3
                ·rw [if_pos c26] at H;have c26b0 : decide (0 ≤ x12_3) = true:=decide_eq_true c26;clear c26
                 by_cases c27 : 0 ≤ (rd t136 x12_3)
                 ·rw [if_pos c27] at H;have c27b0 : decide (0 ≤ (rd t136 x12_3)) = true:=decide_eq_true c27;clear c27
                  by_cases c28 : (rd t136 x12_3) < (x4_3.length : Int)
                  ·rw [if_pos c28] at H;have c28b0 : decide ((rd t136 x12_3) < (x4_3.length : Int)) = true:=decide_eq_true c28;clear c28
                   by_cases c29 : (rd x4_3 (rd t136 x12_3)) < 0
                   ·rw [if_pos c29] at H;have c29b0 : decide ((rd x4_3 (rd t136 x12_3)) < 0) = true:=decide_eq_true c29;clear c29;obtain ⟨y142,hy142⟩ : ∃ y_ : List Int,y_ = (x4_3.set ((rd t136 x12_3) : Int).toNat t134):=⟨_,rfl⟩
                    replace H : (if x6_3.length < 17592186044416 then (if (rd y142 (rd t136 x12_3)) = t134 then (spec_l4Rooms.l2 k3 l0 y142 (x6_3 ++ [rd t136 x12_3]) x7_2 t134 t136 (wrap64 (x12_3 + 1))) else (some (y142,false))) else (none)) = some (r1,r2):=by first | (rw [hy142];with_reducible exact H) | (have H2_:=(G _ _).symm.trans H;rw [hy142];with_reducible exact H2_) | (have H2_:=(G _ _).symm.trans H;with_reducible exact H2_) | with_reducible exact H | (rw [hy142];exact H) | exact H
                    have Ny142:=J hy142;clear hy142
                    by_cases c31 : x6_3.length < 17592186044416
                    ·rw [if_pos c31] at H;have LMc31:=J c31;clear c31;obtain ⟨y144,hy144⟩ : ∃ y_ : List Int,y_ = (x6_3 ++ [rd t136 x12_3]):=⟨_,rfl⟩
                     replace H : (if (rd y142 (rd t136 x12_3)) = t134 then (spec_l4Rooms.l2 k3 l0 y142 y144 x7_2 t134 t136 (wrap64 (x12_3 + 1))) else (some (y142,false))) = some (r1,r2):=by first | (rw [hy144];with_reducible exact H) | (have H2_:=(G _ _).symm.trans H;rw [hy144];with_reducible exact H2_) | (have H2_:=(G _ _).symm.trans H;with_reducible exact H2_) | with_reducible exact H | (rw [hy144];exact H) | exact H
                     have Ny144:=J hy144;clear hy144
                     by_cases c32 : (rd y142 (rd t136 x12_3)) = t134
                     ·rw [if_pos c32] at H;have c32b0 : ((rd y142 (rd t136 x12_3)) == t134) = true:=beq_iff_eq.mpr c32;have c32b1 : ((rd y142 (rd t136 x12_3)) != t134) = false:=bne_eq_false_iff_eq.mpr c32;clear c32;have H':=J H;clear H;obtain ⟨Ao33,co33,eo33⟩:=Kd.R_slice HO_11.out;subst eo33
                      have p139 : 0 ≤ (x12_3 : Int):=of_decide_eq_true (by first | (with_reducible assumption) | assumption)
                      have q139 : x12_3 < (t136.length : Int):=of_decide_eq_true (by first | (with_reducible assumption) | assumption)
                      obtain ⟨ad139,e139,hx139_0⟩:=Kd.at_int (Kd.R_reads' HO_11.out).2.2 x12_3 p139 q139
                      cases e139
                      replace p139:=eq_true p139;replace q139:=eq_true q139
                      have p140 : 0 ≤ ((rd t136 x12_3) : Int):=of_decide_eq_true (by first | (with_reducible assumption) | assumption)
                      have q140 : (rd t136 x12_3) < (x4_3.length : Int):=of_decide_eq_true (by first | (with_reducible assumption) | assumption)
                      obtain ⟨ad140,e140,hx140_0⟩:=Kd.at_int (Kd.R_reads' HO_4.out).2.2 (rd t136 x12_3) p140 q140
                      obtain rfl : (⟨go8,0,none⟩ : Addr) = ad140:=(by injection e140)
                      (first | simp only [add_plain] at hx140_0 | simp only [add_at] at hx140_0 | simp only [Addr.add,Nat.zero_add] at hx140_0 | skip)
                      replace p140:=eq_true p140;replace q140:=eq_true q140
                      have p141 : 0 ≤ (x12_3 : Int):=of_decide_eq_true (by first | (with_reducible assumption) | assumption)
                      have q141 : x12_3 < (t136.length : Int):=of_decide_eq_true (by first | (with_reducible assumption) | assumption)
                      obtain ⟨ad141,e141,hx141_0⟩:=Kd.at_int (Kd.R_reads' HO_11.out).2.2 x12_3 p141 q141
                      obtain rfl : ad139 = ad141:=(by injection e141)
                      replace p141:=eq_true p141;replace q141:=eq_true q141
                      have p30 : 0 ≤ ((rd t136 x12_3) : Int):=of_decide_eq_true (by first | (with_reducible assumption) | assumption)
                      have q30 : ((rd t136 x12_3) : Int) < ((x4_3.length : Int) : Int):=of_decide_eq_true (by first | (with_reducible assumption) | assumption)
                      obtain ⟨hx30_0,hf30_0⟩:=Kd.R_celln 0 HO_4.out ((rd t136 x12_3) : Int) p30 q30;replace p30:=eq_true p30;replace q30:=eq_true q30;have HP34:=Kd.R_putg HO_4.out ((rd t136 x12_3) : Int) t134
                      go_wp2_with (first | ((with_reducible refine gate_store (t:=3) (p:=74) rfl ?_);refine store_event (t:=3) (p:=74) (v:=?vo_w35) (w1:=(wr.setCell ⟨go8,((rd t136 x12_3) : Int).toNat,none⟩ (.int .i64 t134))) ?hg ?ho ?hn ?hr ?_;(case ho=>rfl);(case hg=>rfl);(case hn=>rfl);(case hr=>first | (go_simp;done) | (go_simp;rfl));intro w35 hw;have hg : wr.grownBy w35 (some go8):=(by rw [hw];exact HP34.2);have hp_ : Kd.R (Kd.int .i64) 3 w35 w.heap.size (fun k_=>some k_ ≠ (u6 : Value).ownBlock ∧ some k_ ≠ (.slice (some ad139) t136.length co33 : Value).ownBlock) (.slice (some ⟨go8,0,none⟩) x4_3.length co8) y142:=(by rw [hw,Ny142.out];exact HP34.1);clear HP34;have n0_:=J (hp_);have n1_:=J (Kd.R_after (v:=(.slice (some ⟨go8,0,none⟩) x4_3.length co8)) (v1:=(.slice (some ⟨go8,0,none⟩) x4_3.length co8)) (ok:=(fun k_=>some k_ ≠ (.slice (some ad139) t136.length co33 : Value).ownBlock)) (by (with_reducible repeat (first | apply Kd.R_alloc | apply Kd.R_drewN | apply Kd.R_drew));exact Kd.R_mono HO_6.out (fun _ hk=>⟨hk.2,hk.1⟩)) hg (.inl rfl));have n2_:=J (Kd.R_after (v:=(.slice (some ⟨go8,0,none⟩) x4_3.length co8)) (v1:=(.slice (some ⟨go8,0,none⟩) x4_3.length co8)) (ok:=(fun k_=>some k_ ≠ (u6 : Value).ownBlock)) (by (with_reducible repeat (first | apply Kd.R_alloc | apply Kd.R_drewN | apply Kd.R_drew));exact Kd.R_mono HO_11.out (fun _ hk=>⟨hk.2,hk.1⟩)) hg (.inl rfl));have n3_:=J ((by rw [hw];exact below_set (HB.out) GB8.out : Below w.heap.size w w35));clear HO_4 HO_6 HO_11 HB;have HO_4:=n0_;have HO_6:=n1_;have HO_11:=n2_;have HB:=n3_;clear n0_ n1_ n2_ n3_ hg hw hp_;have p143 : 0 ≤ (x12_3 : Int):=of_decide_eq_true (by first | (with_reducible assumption) | assumption);have q143 : x12_3 < (t136.length : Int):=of_decide_eq_true (by first | (with_reducible assumption) | assumption);obtain ⟨ad143,e143,hx143_0⟩:=Kd.at_int (Kd.R_reads' HO_11.out).2.2 x12_3 p143 q143;obtain rfl : ad139 = ad143:=(by injection e143);replace p143:=eq_true p143;replace q143:=eq_true q143) | ((with_reducible refine gate_builtin (b:=.append) (xs:=#[.tmp 75,.tmp 80]) rfl ?_);at_builtin;refine Kd.R_append (Kd.int .i64) (w0:=w) w.heap.size rfl (.tmp 75) (.tmp 80) 51 3 (.int .i64 0) 8 rfl Try.underlying51 info3 rfl (by decide) (by omega) u6 x6_3 (rd t136 x12_3) [.int .i64 (rd t136 x12_3)] (fun k_=>some k_ ≠ (.slice (some ⟨go8,0,none⟩) x4_3.length co8 : Value).ownBlock ∧ some k_ ≠ (.slice (some ad139) t136.length co33 : Value).ownBlock) (fun _=>False) rfl rfl ?aP (fun _ hk=>hk.elim) ?aF ?aO ?aB ?aS ?aL ?_;(case aP=>exact rfl);(case aB=>exact q0_ HB);(case aF=>exact (fun k_ hk=>⟨Kd.fresh' (Kd.R_lt (q3_ HO_4)) k_ hk,Kd.fresh' (Kd.R_lt (q3_ HO_11)) k_ hk⟩));(case aO=>exact (by (with_reducible repeat (first | apply Kd.R_alloc | apply Kd.R_drewN | apply Kd.R_drew));exact Kd.R_mono HO_6.out (fun _ hk=>⟨hk.2,hk.1⟩)));(case aS=>exact (below_size (q0_ HB)));(case aL=>have:=LMc31.out;omega);intro v145 w36 ho hb hg hat;rw [← Ny144.out] at ho;have n0_:=J (Kd.R_after (ok:=(fun k_=>some k_ ≠ (.slice (some ad139) t136.length co33 : Value).ownBlock)) (by (with_reducible repeat (first | apply Kd.R_alloc | apply Kd.R_drewN | apply Kd.R_drew));exact Kd.R_mono HO_4.out (fun _ hk=>⟨hk.2,hk.1⟩)) hg hat);have n1_:=J (Kd.R_after (ok:=(fun k_=>some k_ ≠ (.slice (some ⟨go8,0,none⟩) x4_3.length co8 : Value).ownBlock)) (by (with_reducible repeat (first | apply Kd.R_alloc | apply Kd.R_drewN | apply Kd.R_drew));exact Kd.R_mono HO_11.out (fun _ hk=>⟨hk.2,hk.1⟩)) hg hat);have n2_:=J (hb);have n3_:=J (ho);clear HO_4 HO_11 HB HO_6;have HO_4:=n0_;have HO_11:=n1_;have HB:=n2_;have HO146:=n3_;clear n0_ n1_ n2_ n3_ ho hb hg hat;have p147 : 0 ≤ (x12_3 : Int):=of_decide_eq_true (by first | (with_reducible assumption) | assumption);have q147 : x12_3 < (t136.length : Int):=of_decide_eq_true (by first | (with_reducible assumption) | assumption);obtain ⟨ad147,e147,hx147_0⟩:=Kd.at_int (Kd.R_reads' HO_11.out).2.2 x12_3 p147 q147;obtain rfl : ad139 = ad147:=(by injection e147);replace p147:=eq_true p147;replace q147:=eq_true q147;have p148 : 0 ≤ ((rd t136 x12_3) : Int):=of_decide_eq_true (by first | (with_reducible assumption) | assumption);have q148 : (rd t136 x12_3) < (y142.length : Int):=(by have h_ : ((rd t136 x12_3) : Int) < ((x4_3.length : Int) : Int):=of_decide_eq_true (by first | (with_reducible assumption) | assumption);first | (have e_:=(Kd.R_reads' HO_4.out).1;omega) | simpa only [Ny142.out,List.length_set] using h_);have ql148 : (((rd t136 x12_3) : Int) < ((x4_3.length : Int) : Int)) = True:=eq_true (of_decide_eq_true (by first | (with_reducible assumption) | assumption));obtain ⟨ad148,e148,hx148_0⟩:=Kd.at_int (Kd.R_reads' HO_4.out).2.2 (rd t136 x12_3) p148 q148;obtain rfl : (⟨go8,0,none⟩ : Addr) = ad148:=(by injection e148);(first | simp only [add_plain] at hx148_0 | simp only [add_at] at hx148_0 | simp only [Addr.add,Nat.zero_add] at hx148_0 | skip);replace p148:=eq_true p148;replace q148:=eq_true q148))
                      (try simp only [← hl4_3])
                      go_roundg k3
                      case measure=>have:=HK1.out;have:=HK2.out;have:=HK3.out;omega
                      case rel=>exact ⟨(y142),(y144),(wrap64 (x12_3 + 1)),(by first | rfl | (simp;done) | (simp [*];done)),H',⟨by have:=HK1.out;have:=HK2.out;have:=HK3.out;omega⟩,⟨by (try simp only [hl4_2]);(try simp only [hl4_3]);(with_reducible repeat (first | apply Kd.R_alloc | apply Kd.R_drewN | apply Kd.R_drew));exact Kd.R_mono HO_4.out (fun _ hk=>⟨hk.2,hk.1⟩)⟩,⟨by (try simp only [hl4_2]);(try simp only [hl4_3]);(with_reducible repeat (first | apply Kd.R_alloc | apply Kd.R_drewN | apply Kd.R_drew));exact HO146.out⟩,⟨by (try simp only [hl4_2]);(try simp only [hl4_3]);(with_reducible repeat (first | apply Kd.R_alloc | apply Kd.R_drewN | apply Kd.R_drew));exact HO_11.out⟩,⟨by repeat (first | (with_reducible first | exact HB.out | apply below_alloc | apply pw_below_drewN | apply below_drew1) | exact HB.out)⟩⟩
                     ·rw [if_neg c32] at H;have c32b0 : ((rd y142 (rd t136 x12_3)) == t134) = false:=beq_eq_false_iff_ne.mpr c32;have c32b1 : ((rd y142 (rd t136 x12_3)) != t134) = true:=bne_iff_ne.mpr c32;simp only [Option.some.injEq,Prod.mk.injEq] at H;obtain ⟨rfl,rfl⟩:=H;obtain ⟨Ao37,co37,eo37⟩:=Kd.R_slice HO_11.out;subst eo37
                      have p139 : 0 ≤ (x12_3 : Int):=of_decide_eq_true (by first | (with_reducible assumption) | assumption)
                      have q139 : x12_3 < (t136.length : Int):=of_decide_eq_true (by first | (with_reducible assumption) | assumption)
                      obtain ⟨ad139,e139,hx139_0⟩:=Kd.at_int (Kd.R_reads' HO_11.out).2.2 x12_3 p139 q139
                      cases e139
                      replace p139:=eq_true p139;replace q139:=eq_true q139
                      have p140 : 0 ≤ ((rd t136 x12_3) : Int):=of_decide_eq_true (by first | (with_reducible assumption) | assumption)
                      have q140 : (rd t136 x12_3) < (x4_3.length : Int):=of_decide_eq_true (by first | (with_reducible assumption) | assumption)
                      obtain ⟨ad140,e140,hx140_0⟩:=Kd.at_int (Kd.R_reads' HO_4.out).2.2 (rd t136 x12_3) p140 q140
                      obtain rfl : (⟨go8,0,none⟩ : Addr) = ad140:=(by injection e140)
                      (first | simp only [add_plain] at hx140_0 | simp only [add_at] at hx140_0 | simp only [Addr.add,Nat.zero_add] at hx140_0 | skip)
                      replace p140:=eq_true p140;replace q140:=eq_true q140
                      have p141 : 0 ≤ (x12_3 : Int):=of_decide_eq_true (by first | (with_reducible assumption) | assumption)
                      have q141 : x12_3 < (t136.length : Int):=of_decide_eq_true (by first | (with_reducible assumption) | assumption)
                      obtain ⟨ad141,e141,hx141_0⟩:=Kd.at_int (Kd.R_reads' HO_11.out).2.2 x12_3 p141 q141
                      obtain rfl : ad139 = ad141:=(by injection e141)
                      replace p141:=eq_true p141;replace q141:=eq_true q141
                      have p30 : 0 ≤ ((rd t136 x12_3) : Int):=of_decide_eq_true (by first | (with_reducible assumption) | assumption)
                      have q30 : ((rd t136 x12_3) : Int) < ((x4_3.length : Int) : Int):=of_decide_eq_true (by first | (with_reducible assumption) | assumption)
                      obtain ⟨hx30_0,hf30_0⟩:=Kd.R_celln 0 HO_4.out ((rd t136 x12_3) : Int) p30 q30;replace p30:=eq_true p30;replace q30:=eq_true q30;have HP38:=Kd.R_putg HO_4.out ((rd t136 x12_3) : Int) t134
                      go_wp2_with (first | ((with_reducible refine gate_store (t:=3) (p:=74) rfl ?_);refine store_event (t:=3) (p:=74) (v:=?vo_w39) (w1:=(wr.setCell ⟨go8,((rd t136 x12_3) : Int).toNat,none⟩ (.int .i64 t134))) ?hg ?ho ?hn ?hr ?_;(case ho=>rfl);(case hg=>rfl);(case hn=>rfl);(case hr=>first | (go_simp;done) | (go_simp;rfl));intro w39 hw;have hg : wr.grownBy w39 (some go8):=(by rw [hw];exact HP38.2);have hp_ : Kd.R (Kd.int .i64) 3 w39 w.heap.size (fun k_=>some k_ ≠ (u6 : Value).ownBlock ∧ some k_ ≠ (.slice (some ad139) t136.length co37 : Value).ownBlock) (.slice (some ⟨go8,0,none⟩) x4_3.length co8) y142:=(by rw [hw,Ny142.out];exact HP38.1);clear HP38;have n0_:=J (hp_);have n1_:=J (Kd.R_after (v:=(.slice (some ⟨go8,0,none⟩) x4_3.length co8)) (v1:=(.slice (some ⟨go8,0,none⟩) x4_3.length co8)) (ok:=(fun k_=>some k_ ≠ (.slice (some ad139) t136.length co37 : Value).ownBlock)) (by (with_reducible repeat (first | apply Kd.R_alloc | apply Kd.R_drewN | apply Kd.R_drew));exact Kd.R_mono HO_6.out (fun _ hk=>⟨hk.2,hk.1⟩)) hg (.inl rfl));have n2_:=J (Kd.R_after (v:=(.slice (some ⟨go8,0,none⟩) x4_3.length co8)) (v1:=(.slice (some ⟨go8,0,none⟩) x4_3.length co8)) (ok:=(fun k_=>some k_ ≠ (u6 : Value).ownBlock)) (by (with_reducible repeat (first | apply Kd.R_alloc | apply Kd.R_drewN | apply Kd.R_drew));exact Kd.R_mono HO_11.out (fun _ hk=>⟨hk.2,hk.1⟩)) hg (.inl rfl));have n3_:=J ((by rw [hw];exact below_set (HB.out) GB8.out : Below w.heap.size w w39));clear HO_4 HO_6 HO_11 HB;have HO_4:=n0_;have HO_6:=n1_;have HO_11:=n2_;have HB:=n3_;clear n0_ n1_ n2_ n3_ hg hw hp_;have p143 : 0 ≤ (x12_3 : Int):=of_decide_eq_true (by first | (with_reducible assumption) | assumption);have q143 : x12_3 < (t136.length : Int):=of_decide_eq_true (by first | (with_reducible assumption) | assumption);obtain ⟨ad143,e143,hx143_0⟩:=Kd.at_int (Kd.R_reads' HO_11.out).2.2 x12_3 p143 q143;obtain rfl : ad139 = ad143:=(by injection e143);replace p143:=eq_true p143;replace q143:=eq_true q143) | ((with_reducible refine gate_builtin (b:=.append) (xs:=#[.tmp 75,.tmp 80]) rfl ?_);at_builtin;refine Kd.R_append (Kd.int .i64) (w0:=w) w.heap.size rfl (.tmp 75) (.tmp 80) 51 3 (.int .i64 0) 8 rfl Try.underlying51 info3 rfl (by decide) (by omega) u6 x6_3 (rd t136 x12_3) [.int .i64 (rd t136 x12_3)] (fun k_=>some k_ ≠ (.slice (some ⟨go8,0,none⟩) x4_3.length co8 : Value).ownBlock ∧ some k_ ≠ (.slice (some ad139) t136.length co37 : Value).ownBlock) (fun _=>False) rfl rfl ?aP (fun _ hk=>hk.elim) ?aF ?aO ?aB ?aS ?aL ?_;(case aP=>exact rfl);(case aB=>exact q0_ HB);(case aF=>exact (fun k_ hk=>⟨Kd.fresh' (Kd.R_lt (q3_ HO_4)) k_ hk,Kd.fresh' (Kd.R_lt (q3_ HO_11)) k_ hk⟩));(case aO=>exact (by (with_reducible repeat (first | apply Kd.R_alloc | apply Kd.R_drewN | apply Kd.R_drew));exact Kd.R_mono HO_6.out (fun _ hk=>⟨hk.2,hk.1⟩)));(case aS=>exact (below_size (q0_ HB)));(case aL=>have:=LMc31.out;omega);intro v145 w40 ho hb hg hat;rw [← Ny144.out] at ho;have n0_:=J (Kd.R_after (ok:=(fun k_=>some k_ ≠ (.slice (some ad139) t136.length co37 : Value).ownBlock)) (by (with_reducible repeat (first | apply Kd.R_alloc | apply Kd.R_drewN | apply Kd.R_drew));exact Kd.R_mono HO_4.out (fun _ hk=>⟨hk.2,hk.1⟩)) hg hat);have n1_:=J (Kd.R_after (ok:=(fun k_=>some k_ ≠ (.slice (some ⟨go8,0,none⟩) x4_3.length co8 : Value).ownBlock)) (by (with_reducible repeat (first | apply Kd.R_alloc | apply Kd.R_drewN | apply Kd.R_drew));exact Kd.R_mono HO_11.out (fun _ hk=>⟨hk.2,hk.1⟩)) hg hat);have n2_:=J (hb);have n3_:=J (ho);clear HO_4 HO_11 HB HO_6;have HO_4:=n0_;have HO_11:=n1_;have HB:=n2_;have HO146:=n3_;clear n0_ n1_ n2_ n3_ ho hb hg hat;have p147 : 0 ≤ (x12_3 : Int):=of_decide_eq_true (by first | (with_reducible assumption) | assumption);have q147 : x12_3 < (t136.length : Int):=of_decide_eq_true (by first | (with_reducible assumption) | assumption);obtain ⟨ad147,e147,hx147_0⟩:=Kd.at_int (Kd.R_reads' HO_11.out).2.2 x12_3 p147 q147;obtain rfl : ad139 = ad147:=(by injection e147);replace p147:=eq_true p147;replace q147:=eq_true q147;have p148 : 0 ≤ ((rd t136 x12_3) : Int):=of_decide_eq_true (by first | (with_reducible assumption) | assumption);have q148 : (rd t136 x12_3) < (y142.length : Int):=(by have h_ : ((rd t136 x12_3) : Int) < ((x4_3.length : Int) : Int):=of_decide_eq_true (by first | (with_reducible assumption) | assumption);first | (have e_:=(Kd.R_reads' HO_4.out).1;omega) | simpa only [Ny142.out,List.length_set] using h_);have ql148 : (((rd t136 x12_3) : Int) < ((x4_3.length : Int) : Int)) = True:=eq_true (of_decide_eq_true (by first | (with_reducible assumption) | assumption));obtain ⟨ad148,e148,hx148_0⟩:=Kd.at_int (Kd.R_reads' HO_4.out).2.2 (rd t136 x12_3) p148 q148;obtain rfl : (⟨go8,0,none⟩ : Addr) = ad148:=(by injection e148);(first | simp only [add_plain] at hx148_0 | simp only [add_at] at hx148_0 | simp only [Addr.add,Nat.zero_add] at hx148_0 | skip);replace p148:=eq_true p148;replace q148:=eq_true q148))
                      go_ret2
                      exact ⟨_,by first | rfl | (simp [errW_none,errW_some] <;> rfl) | (simp [*,errW_none,errW_some] <;> rfl),by (with_reducible repeat (first | apply Kd.R_alloc | apply Kd.R_drewN | apply Kd.R_drew));exact Kd.R_mono HO_4.out (fun _ hk=>trivial),by repeat (first | (with_reducible first | exact HB.out | apply below_alloc | apply pw_below_drewN | apply below_drew1) | exact HB.out)⟩
                    ·rw [if_neg c31] at H
                     exact absurd H (by simp)
                   ·rw [if_neg c29] at H;have c29b0 : decide ((rd x4_3 (rd t136 x12_3)) < 0) = false:=decide_eq_false c29;clear c29
                    by_cases c41 : (rd x4_3 (rd t136 x12_3)) = t134
                    ·rw [if_pos c41] at H;have c41b0 : ((rd x4_3 (rd t136 x12_3)) == t134) = true:=beq_iff_eq.mpr c41;have c41b1 : ((rd x4_3 (rd t136 x12_3)) != t134) = false:=bne_eq_false_iff_eq.mpr c41;clear c41;have H':=J H;clear H;obtain ⟨Ao42,co42,eo42⟩:=Kd.R_slice HO_11.out;subst eo42
                     have p139 : 0 ≤ (x12_3 : Int):=of_decide_eq_true (by first | (with_reducible assumption) | assumption)
                     have q139 : x12_3 < (t136.length : Int):=of_decide_eq_true (by first | (with_reducible assumption) | assumption)
                     obtain ⟨ad139,e139,hx139_0⟩:=Kd.at_int (Kd.R_reads' HO_11.out).2.2 x12_3 p139 q139
                     cases e139
                     replace p139:=eq_true p139;replace q139:=eq_true q139
                     have p140 : 0 ≤ ((rd t136 x12_3) : Int):=of_decide_eq_true (by first | (with_reducible assumption) | assumption)
                     have q140 : (rd t136 x12_3) < (x4_3.length : Int):=of_decide_eq_true (by first | (with_reducible assumption) | assumption)
                     obtain ⟨ad140,e140,hx140_0⟩:=Kd.at_int (Kd.R_reads' HO_4.out).2.2 (rd t136 x12_3) p140 q140
                     obtain rfl : (⟨go8,0,none⟩ : Addr) = ad140:=(by injection e140)
                     (first | simp only [add_plain] at hx140_0 | simp only [add_at] at hx140_0 | simp only [Addr.add,Nat.zero_add] at hx140_0 | skip)
                     replace p140:=eq_true p140;replace q140:=eq_true q140
                     have p149 : 0 ≤ (x12_3 : Int):=of_decide_eq_true (by first | (with_reducible assumption) | assumption)
                     have q149 : x12_3 < (t136.length : Int):=of_decide_eq_true (by first | (with_reducible assumption) | assumption)
                     obtain ⟨ad149,e149,hx149_0⟩:=Kd.at_int (Kd.R_reads' HO_11.out).2.2 x12_3 p149 q149
                     obtain rfl : ad139 = ad149:=(by injection e149)
                     replace p149:=eq_true p149;replace q149:=eq_true q149
                     have p150 : 0 ≤ ((rd t136 x12_3) : Int):=of_decide_eq_true (by first | (with_reducible assumption) | assumption)
                     have q150 : (rd t136 x12_3) < (x4_3.length : Int):=of_decide_eq_true (by first | (with_reducible assumption) | assumption)
                     obtain ⟨ad150,e150,hx150_0⟩:=Kd.at_int (Kd.R_reads' HO_4.out).2.2 (rd t136 x12_3) p150 q150
                     obtain rfl : (⟨go8,0,none⟩ : Addr) = ad150:=(by injection e150)
                     (first | simp only [add_plain] at hx150_0 | simp only [add_at] at hx150_0 | simp only [Addr.add,Nat.zero_add] at hx150_0 | skip)
                     replace p150:=eq_true p150;replace q150:=eq_true q150
                     go_wp2
                     (try simp only [← hl4_3])
                     go_roundg k3
                     case measure=>have:=HK1.out;have:=HK2.out;have:=HK3.out;omega
                     case rel=>exact ⟨(x4_3),(x6_3),(wrap64 (x12_3 + 1)),(by first | rfl | (simp;done) | (simp [*];done)),H',⟨by have:=HK1.out;have:=HK2.out;have:=HK3.out;omega⟩,⟨by (try simp only [hl4_2]);(try simp only [hl4_3]);(with_reducible repeat (first | apply Kd.R_alloc | apply Kd.R_drewN | apply Kd.R_drew));exact HO_4.out⟩,⟨by (try simp only [hl4_2]);(try simp only [hl4_3]);(with_reducible repeat (first | apply Kd.R_alloc | apply Kd.R_drewN | apply Kd.R_drew));exact HO_6.out⟩,⟨by (try simp only [hl4_2]);(try simp only [hl4_3]);(with_reducible repeat (first | apply Kd.R_alloc | apply Kd.R_drewN | apply Kd.R_drew));exact HO_11.out⟩,⟨by repeat (first | (with_reducible first | exact HB.out | apply below_alloc | apply pw_below_drewN | apply below_drew1) | exact HB.out)⟩⟩
                    ·rw [if_neg c41] at H;have c41b0 : ((rd x4_3 (rd t136 x12_3)) == t134) = false:=beq_eq_false_iff_ne.mpr c41;have c41b1 : ((rd x4_3 (rd t136 x12_3)) != t134) = true:=bne_iff_ne.mpr c41;simp only [Option.some.injEq,Prod.mk.injEq] at H;obtain ⟨rfl,rfl⟩:=H;obtain ⟨Ao43,co43,eo43⟩:=Kd.R_slice HO_11.out;subst eo43
                     have p139 : 0 ≤ (x12_3 : Int):=of_decide_eq_true (by first | (with_reducible assumption) | assumption)
                     have q139 : x12_3 < (t136.length : Int):=of_decide_eq_true (by first | (with_reducible assumption) | assumption)
                     obtain ⟨ad139,e139,hx139_0⟩:=Kd.at_int (Kd.R_reads' HO_11.out).2.2 x12_3 p139 q139
                     cases e139
                     replace p139:=eq_true p139;replace q139:=eq_true q139
                     have p140 : 0 ≤ ((rd t136 x12_3) : Int):=of_decide_eq_true (by first | (with_reducible assumption) | assumption)
                     have q140 : (rd t136 x12_3) < (x4_3.length : Int):=of_decide_eq_true (by first | (with_reducible assumption) | assumption)
                     obtain ⟨ad140,e140,hx140_0⟩:=Kd.at_int (Kd.R_reads' HO_4.out).2.2 (rd t136 x12_3) p140 q140
                     obtain rfl : (⟨go8,0,none⟩ : Addr) = ad140:=(by injection e140)
                     (first | simp only [add_plain] at hx140_0 | simp only [add_at] at hx140_0 | simp only [Addr.add,Nat.zero_add] at hx140_0 | skip)
                     replace p140:=eq_true p140;replace q140:=eq_true q140
                     have p149 : 0 ≤ (x12_3 : Int):=of_decide_eq_true (by first | (with_reducible assumption) | assumption)
                     have q149 : x12_3 < (t136.length : Int):=of_decide_eq_true (by first | (with_reducible assumption) | assumption)
                     obtain ⟨ad149,e149,hx149_0⟩:=Kd.at_int (Kd.R_reads' HO_11.out).2.2 x12_3 p149 q149
                     obtain rfl : ad139 = ad149:=(by injection e149)
                     replace p149:=eq_true p149;replace q149:=eq_true q149
                     have p150 : 0 ≤ ((rd t136 x12_3) : Int):=of_decide_eq_true (by first | (with_reducible assumption) | assumption)
                     have q150 : (rd t136 x12_3) < (x4_3.length : Int):=of_decide_eq_true (by first | (with_reducible assumption) | assumption)
                     obtain ⟨ad150,e150,hx150_0⟩:=Kd.at_int (Kd.R_reads' HO_4.out).2.2 (rd t136 x12_3) p150 q150
                     obtain rfl : (⟨go8,0,none⟩ : Addr) = ad150:=(by injection e150)
                     (first | simp only [add_plain] at hx150_0 | simp only [add_at] at hx150_0 | simp only [Addr.add,Nat.zero_add] at hx150_0 | skip)
                     replace p150:=eq_true p150;replace q150:=eq_true q150
                     go_wp2
                     go_ret2
                     exact ⟨_,by first | rfl | (simp [errW_none,errW_some] <;> rfl) | (simp [*,errW_none,errW_some] <;> rfl),by (with_reducible repeat (first | apply Kd.R_alloc | apply Kd.R_drewN | apply Kd.R_drew));exact Kd.R_mono HO_4.out (fun _ hk=>trivial),by repeat (first | (with_reducible first | exact HB.out | apply below_alloc | apply pw_below_drewN | apply below_drew1) | exact HB.out)⟩
                  ·rw [if_neg c28] at H
                   exact absurd H (by simp)
                 ·rw [if_neg c27] at H
                  exact absurd H (by simp)
                ·rw [if_neg c26] at H
                 exact absurd H (by simp)
               ·rw [if_neg c25] at H;have c25b0 : decide (x12_3 < (t136.length : Int)) = false:=decide_eq_false c25;clear c25;have H':=J H;clear H;obtain ⟨Ao44,co44,eo44⟩:=Kd.R_slice HO_11.out;subst eo44
                go_wp2
                (try simp only [← hl4_2,← hl4_3])
                go_roundg k3
                case measure=>have:=HK1.out;have:=HK2.out;have:=HK3.out;omega
                case rel=>exact ⟨(x4_3),(x6_3),(wrap64 (x7_2 + 1)),(by first | rfl | (simp;done) | (simp [*];done)),H',⟨by have:=HK1.out;have:=HK2.out;have:=HK3.out;omega⟩,⟨by (try simp only [hl4_2]);(try simp only [hl4_3]);(with_reducible repeat (first | apply Kd.R_alloc | apply Kd.R_drewN | apply Kd.R_drew));exact Kd.R_mono HO_4.out (fun _ hk=>hk.1)⟩,⟨by (try simp only [hl4_2]);(try simp only [hl4_3]);(with_reducible repeat (first | apply Kd.R_alloc | apply Kd.R_drewN | apply Kd.R_drew));exact Kd.R_mono HO_6.out (fun _ hk=>hk.1)⟩,⟨by repeat (first | (with_reducible first | exact HB.out | apply below_alloc | apply pw_below_drewN | apply below_drew1) | exact HB.out)⟩⟩
            ·replace c19:=Bool.eq_false_iff.mpr c19;subst c19
             have H1 : (some (x4_2,false)) = some (r1,r2):=by rw [if_neg (show ¬ (false = true) by decide)] at H;exact H
             clear H;have H:=H1;clear H1;simp only [Option.some.injEq,Prod.mk.injEq] at H;obtain ⟨rfl,rfl⟩:=H;obtain ⟨Ao45,co45,eo45⟩:=Kd.R_slice HO_6.out;subst eo45
             have p131 : 0 ≤ (x7_2 : Int):=of_decide_eq_true (by first | (with_reducible assumption) | assumption)
             have q131 : x7_2 < (x6_2.length : Int):=of_decide_eq_true (by first | (with_reducible assumption) | assumption)
             obtain ⟨ad131,e131,hx131_0⟩:=Kd.at_int (Kd.R_reads' HO_6.out).2.2 x7_2 p131 q131
             cases e131
             replace p131:=eq_true p131;replace q131:=eq_true q131
             try go_wp2
             have n0_:=J (Kd.R_drew HO_4.out);have n1_:=J (Kd.R_drew HO_6.out);have n2_:=J (below_drew1 HB.out);clear HO_4 HO_6 HB;have HO_4:=n0_;have HO_6:=n1_;have HB:=n2_;clear n0_ n1_ n2_
             have p132 : 0 ≤ ((rd x6_2 x7_2) : Int):=of_decide_eq_true (by first | (with_reducible assumption) | assumption)
             have q132 : (rd x6_2 x7_2) < (l0.length : Int):=of_decide_eq_true (by first | (with_reducible assumption) | assumption)
             obtain ⟨ad132,e132,hx132_0,hx132_1,hx132_2,hx132_3⟩:=at_T42 HR0.out (rd x6_2 x7_2) p132 q132;have hw132_3:=hx132_3;have hw132_2:=hx132_2;have hw132_1:=hx132_1;have hw132_0:=hx132_0
             cases e132
             replace hx132_0:=(HB.out.cell (X w _ hx132_0)).trans hx132_0;replace hx132_1:=(HB.out.cell (X w _ hx132_1)).trans hx132_1;replace hx132_2:=(HB.out.cell (X w _ hx132_2)).trans hx132_2;replace hx132_3:=(HB.out.cell (X w _ hx132_3)).trans hx132_3;replace p132:=eq_true p132;replace q132:=eq_true q132
             have p133 : 0 ≤ ((rd x6_2 x7_2) : Int):=of_decide_eq_true (by first | (with_reducible assumption) | assumption)
             have q133 : (rd x6_2 x7_2) < (x4_2.length : Int):=of_decide_eq_true (by first | (with_reducible assumption) | assumption)
             obtain ⟨ad133,e133,hx133_0⟩:=Kd.at_int (Kd.R_reads' HO_4.out).2.2 (rd x6_2 x7_2) p133 q133
             obtain rfl : (⟨go8,0,none⟩ : Addr) = ad133:=(by injection e133)
             (first | simp only [add_plain] at hx133_0 | simp only [add_at] at hx133_0 | simp only [Addr.add,Nat.zero_add] at hx133_0 | skip)
             replace p133:=eq_true p133;replace q133:=eq_true q133
             refine start_ (n:=14) (S:=fun w'=>w'.cell? (ad132.add (((rd x6_2 x7_2)).toNat * 4)) = some (.int .i64 ((rd_T42 l0 (rd x6_2 x7_2)).f0)) ∧ w'.cell? ⟨(ad132.add (((rd x6_2 x7_2)).toNat * 4)).block,(ad132.add (((rd x6_2 x7_2)).toNat * 4)).off + 1,none⟩ = some (.int .i64 ((rd_T42 l0 (rd x6_2 x7_2)).f1)) ∧ w'.cell? ⟨(ad132.add (((rd x6_2 x7_2)).toNat * 4)).block,(ad132.add (((rd x6_2 x7_2)).toNat * 4)).off + 2,none⟩ = some (.int .i64 ((rd_T42 l0 (rd x6_2 x7_2)).f2)) ∧ w'.cell? ⟨(ad132.add (((rd x6_2 x7_2)).toNat * 4)).block,(ad132.add (((rd x6_2 x7_2)).toNat * 4)).off + 3,none⟩ = some (.int .i64 ((rd_T42 l0 (rd x6_2 x7_2)).f3)) ∧ w'.cell? ⟨go8,((rd x6_2 x7_2)).toNat,none⟩ = some (.int .i64 (rd x4_2 (rd x6_2 x7_2)))) (ds:=[]) #[Z,Z,Z,Z,Z,Z,Z,Z,Z,Z,Z,Z,Z,Z] (by kernel_rfl) rfl rfl ⟨((HB.out.cell (X w _ hw132_0)).trans hw132_0),((HB.out.cell (X w _ hw132_1)).trans hw132_1),((HB.out.cell (X w _ hw132_2)).trans hw132_2),((HB.out.cell (X w _ hw132_3)).trans hw132_3),hx133_0⟩ (fun hHeld=>?_);refine with_tabW spec_l4Rooms.tab12 spec_l4Rooms.bits12 (fun HT_ HW_=>?_)
             generalize wr.drew = w46 at HO_4 HO_6 HB hx132_0 hx132_1 hx132_2 hx132_3 hx133_0 hHeld ⊢
             refine pure_ (i:=0) (N:=some 37) (v:=?_) (a':=?_) #[O,Z,Z,Z,Z,Z,Z,Z,Z,Z,Z,Z,Z,Z] rfl rfl (any_of HT_.out (by kernel_rfl)) (fun _ _ _ h=>h) (Or.inl ⟨by rfl,?_⟩) ?_ ?_;rotate_left;(intro w';go_simp;with_reducible rfl);rotate_left;((try simp only [Q,Y,E,U,i64_w,i32_w]);rfl)
             refine pure_ (i:=1) (N:=some 38) (v:=?_) (a':=?_) #[O,O,Z,Z,Z,Z,Z,Z,Z,Z,Z,Z,Z,Z] rfl rfl (any_of HT_.out (by kernel_rfl)) (fun _ _ _ h=>h) (Or.inl ⟨by rfl,?_⟩) ?_ ?_;rotate_left;(intro w';go_simp;with_reducible rfl);rotate_left;((try simp only [Q,Y,E,U,i64_w,i32_w]);rfl)
             refine pure_ (i:=2) (N:=some 39) (v:=?_) (a':=?_) #[O,O,O,Z,Z,Z,Z,Z,Z,Z,Z,Z,Z,Z] rfl rfl (any_of HT_.out (by kernel_rfl)) (fun _ _ _ h=>h) (Or.inl ⟨by rfl,?_⟩) ?_ ?_;rotate_left;(intro w';go_simp;with_reducible rfl);rotate_left;((try simp only [Q,Y,E,U,i64_w,i32_w]);rfl)
             refine pure_ (i:=4) (N:=some 41) (v:=?_) (a':=?_) #[O,O,O,Z,O,Z,Z,Z,Z,Z,Z,Z,Z,Z] rfl rfl (any_of HT_.out (by kernel_rfl)) (fun _ _ _ h=>h) (Or.inl ⟨by rfl,?_⟩) ?_ ?_;rotate_left;(intro w';go_simp;with_reducible rfl);rotate_left;((try simp only [Q,Y,E,U,i64_w,i32_w]);rfl)
             refine pure_ (i:=5) (N:=some 42) (v:=?_) (a':=?_) #[O,O,O,Z,O,O,Z,Z,Z,Z,Z,Z,Z,Z] rfl rfl (any_of HT_.out (by kernel_rfl)) (fun _ _ _ h=>h) (Or.inl ⟨by rfl,?_⟩) ?_ ?_;rotate_left;(intro w';go_simp;with_reducible rfl);rotate_left;((try simp only [Q,Y,E,U,i64_w,i32_w]);rfl)
             refine pure_ (i:=6) (N:=some 43) (v:=?_) (a':=?_) #[O,O,O,Z,O,O,O,Z,Z,Z,Z,Z,Z,Z] rfl rfl (any_of HT_.out (by kernel_rfl)) (fun _ _ _ h=>h) (Or.inl ⟨by rfl,?_⟩) ?_ ?_;rotate_left;(intro w';go_simp;with_reducible rfl);rotate_left;((try simp only [Q,Y,E,U,i64_w,i32_w]);rfl)
             refine take_ (i:=3) (N:=some 40) (v:=?_) (a':=?_) #[O,O,O,O,O,O,O,Z,Z,Z,Z,Z,Z,Z] rfl rfl (take_ofW HT_.out HW_.out (by kernel_rfl)) (fun _ _ _ h=>h) (Or.inl ⟨by rfl,?_⟩) hHeld ?_ ?_;rotate_left;(rintro w' ⟨s0,s1,s2,s3,s4⟩;go_simp;with_reducible rfl);rotate_left;((try simp only [Q,Y,E,U,i64_w,i32_w]);rfl)
             refine take_ (i:=7) (N:=some 44) (v:=?_) (a':=?_) #[O,O,O,O,O,O,O,O,Z,Z,Z,Z,Z,Z] rfl rfl (take_ofW HT_.out HW_.out (by kernel_rfl)) (fun _ _ _ h=>h) (Or.inl ⟨by rfl,?_⟩) hHeld ?_ ?_;rotate_left;(rintro w' ⟨s0,s1,s2,s3,s4⟩;go_simp;with_reducible rfl);rotate_left;((try simp only [Q,Y,E,U,i64_w,i32_w]);rfl)
             refine one_ (i:=8) (N:=some 45) #[O,O,O,O,O,O,O,O,O,Z,Z,Z,Z,Z] rfl rfl (one_of HT_.out (by kernel_rfl)) (by decide) (fun K hK=>?_)
             refine goes_ Try.func54 (by kernel_rfl) rfl #[.agg #[.int .i64 ((rd_T42 l0 (rd x6_2 x7_2)).f0),.int .i64 ((rd_T42 l0 (rd x6_2 x7_2)).f1),.int .i64 ((rd_T42 l0 (rd x6_2 x7_2)).f2),.int .i64 ((rd_T42 l0 (rd x6_2 x7_2)).f3)],.int .i64 (rd x4_2 (rd x6_2 x7_2))] (by rfl) rfl rfl (by (try simp only [List.map_toArray,List.map_cons,List.map_nil]);first | done | rfl | (simp only [List.length_drop,List.length_take];rfl)) ?_
             with_reducible refine (spec_l4Held.calls ((rd_T42 l0 (rd x6_2 x7_2)).f0) ((rd_T42 l0 (rd x6_2 x7_2)).f1) ((rd_T42 l0 (rd x6_2 x7_2)).f2) ((rd_T42 l0 (rd x6_2 x7_2)).f3) (rd x4_2 (rd x6_2 x7_2)) t134 false _ A18.out).mono ?_
             rintro e w47 ⟨rfl,hb⟩
             have HS4_:=(hb.cell (X _ _ (hHeld.2.2.2.2))).trans (hHeld.2.2.2.2)
             refine ⟨_,rfl,?_⟩
             have n0_:=J (Kd.R_below (q3_ HO_4) hb)
             have n1_:=J (Kd.R_below (q3_ HO_6) hb)
             have n2_:=J (below_step (q0_ HB) hb)
             clear HO_4 HO_6 HB;have HO_4:=n0_;have HO_6:=n1_;have HB:=n2_;clear n0_ n1_ n2_
             refine hK.out _ _ ⟨((HB.out.cell (X w _ hw132_0)).trans hw132_0),((HB.out.cell (X w _ hw132_1)).trans hw132_1),((HB.out.cell (X w _ hw132_2)).trans hw132_2),((HB.out.cell (X w _ hw132_3)).trans hw132_3),HS4_⟩ (fun hHeld=>?_)
             clear hK K
             refine norm_ (a':=?_) ?_ ?_
             rotate_left
             ·show Q _ (some 45) _ = _
              simp only [Q,Y,E,U,i64_w,i32_w]
              rfl
             refine pure_ (i:=9) (N:=some 36) (v:=?_) (a':=?_) #[O,O,O,O,O,O,O,O,O,O,Z,Z,Z,Z] rfl rfl (any_of HT_.out (by kernel_rfl)) (fun _ _ _ h=>h) (Or.inl ⟨by rfl,?_⟩) ?_ ?_;rotate_left;(intro w';go_simp;with_reducible rfl);rotate_left;((try simp only [Q,Y,E,U,i64_w,i32_w]);rfl)
             refine pure_ (i:=10) (N:=some 46) (v:=?_) (a':=?_) #[O,O,O,O,O,O,O,O,O,O,O,Z,Z,Z] rfl rfl (any_of HT_.out (by kernel_rfl)) (fun _ _ _ h=>h) (Or.inl ⟨by rfl,?_⟩) ?_ ?_;rotate_left;(intro w';go_simp;with_reducible rfl);rotate_left;((try simp only [Q,Y,E,U,i64_w,i32_w]);rfl)
             refine pure_ (i:=11) (N:=some 47) (v:=?_) (a':=?_) #[O,O,O,O,O,O,O,O,O,O,O,O,Z,Z] rfl rfl (any_of HT_.out (by kernel_rfl)) (fun _ _ _ h=>h) (Or.inl ⟨by rfl,?_⟩) ?_ ?_;rotate_left;(intro w';go_simp;with_reducible rfl);rotate_left;((try simp only [Q,Y,E,U,i64_w,i32_w]);rfl)
             refine pure_ (i:=12) (N:=some 9) (v:=?_) (a':=?_) #[O,O,O,O,O,O,O,O,O,O,O,O,O,Z] rfl rfl (any_of HT_.out (by kernel_rfl)) (fun _ _ _ h=>h) (Or.inl ⟨by rfl,?_⟩) ?_ ?_;rotate_left;(intro w';go_simp;with_reducible rfl);rotate_left;((try simp only [Q,Y,E,U,i64_w,i32_w]);rfl)
             refine pure_ (i:=13) (N:=some 10) (v:=?_) (a':=?_) #[O,O,O,O,O,O,O,O,O,O,O,O,O,O] rfl rfl (any_of HT_.out (by kernel_rfl)) (fun _ _ _ h=>h) (Or.inl ⟨by rfl,?_⟩) ?_ ?_;rotate_left;(intro w';go_simp;with_reducible rfl);rotate_left;((try simp only [Q,Y,E,U,i64_w,i32_w]);rfl)
             refine done_ (done_of HT_.out (by kernel_rfl)) ?_
             try go_wp2
             go_ret2
             exact ⟨_,by first | rfl | (simp [errW_none,errW_some] <;> rfl) | (simp [*,errW_none,errW_some] <;> rfl),by (with_reducible repeat (first | apply Kd.R_alloc | apply Kd.R_drewN | apply Kd.R_drew));exact Kd.R_mono HO_4.out (fun _ hk=>trivial),by repeat (first | (with_reducible first | exact HB.out | apply below_alloc | apply pw_below_drewN | apply below_drew1) | exact HB.out)⟩
           ·rw [if_neg c17] at H
            exact absurd H (by simp)
          ·rw [if_neg c16] at H
           exact absurd H (by simp)
         ·rw [if_neg c15] at H
          exact absurd H (by simp)
        ·rw [if_neg c14] at H
         exact absurd H (by simp)
       ·rw [if_neg c13] at H;have c13b0 : decide (x7_2 < (x6_2.length : Int)) = false:=decide_eq_false c13;clear c13;simp only [Option.some.injEq,Prod.mk.injEq] at H;obtain ⟨rfl,rfl⟩:=H;obtain ⟨Ao48,co48,eo48⟩:=Kd.R_slice HO_6.out;subst eo48
        go_wp2
        go_ret2
        exact ⟨_,by first | rfl | (simp [errW_none,errW_some] <;> rfl) | (simp [*,errW_none,errW_some] <;> rfl),by (with_reducible repeat (first | apply Kd.R_alloc | apply Kd.R_drewN | apply Kd.R_drew));exact Kd.R_mono HO_4.out (fun _ hk=>trivial),by repeat (first | (with_reducible first | exact HB.out | apply below_alloc | apply pw_below_drewN | apply below_drew1) | exact HB.out)⟩
    ·rw [if_neg c7] at H
     exact absurd H (by simp)
end Go.Proofs.Ytphbdoljkpdflaa.P

namespace Go.Proofs.Ytphbdoljkpdflaa.P
open Go.RowKit Go.Proofs.YtphbdoljkpdflaaW.PrintWords Go.Proofs.YtphbdoljkpdflaaW.PrintLast Go.Proofs.YtphbdoljkpdflaaW.PrintMore
open Go renaming World.block_lt_of_cell? → O
attribute [local go_sem] max2_int min2_int max_two min_two max_three min_three max_four min_four
set_option linter.unusedVariables false
set_option linter.unusedSimpArgs false
mutual
def spec_CodeOk.j0 : Nat → List (S42) → Int → Bool → Option (Bool)
 | 0,_,_,_=>none
 | k + 1,x0,x3,x23=>if x23 = true then (some false) else (spec_CodeOk.l0 k x0 x3 0)
def spec_CodeOk.l0 : Nat → List (S42) → Int → Int → Option (Bool)
 | 0,_,_,_=>none
 | k + 1,x0,x3,x4=>if x4 < x3 then (if 0 ≤ x4 then (if x4 < (x0.length : Int) then ((spec_l4Ins.f k ((rd_T42 x0 x4).f0) ((rd_T42 x0 x4).f1) ((rd_T42 x0 x4).f2) ((rd_T42 x0 x4).f3) x3).bind fun t153=>(if t153 = true then (if ((rd_T42 x0 x4).f0) = 13 then (if x4 < (wrap64 (x3 - 1)) then (some false) else (spec_CodeOk.l0 k x0 x3 (wrap64 (x4 + 1)))) else (spec_CodeOk.l0 k x0 x3 (wrap64 (x4 + 1)))) else (some false))) else (none)) else (none)) else ((spec_l4Rooms.f k x0).bind fun bt155=>(some bt155.2))
end
def spec_CodeOk.f (k : Nat) (l0 : List (S42)) : Option (Bool):=if (l0.length : Int) < 1 then (spec_CodeOk.j0 k l0 (l0.length : Int) true) else (if (l0.length : Int) > 60 then (spec_CodeOk.j0 k l0 (l0.length : Int) true) else (if 0 ≤ (wrap64 ((l0.length : Int) - 1)) then (if (wrap64 ((l0.length : Int) - 1)) < (l0.length : Int) then (spec_CodeOk.j0 k l0 (l0.length : Int) (((rd_T42 l0 (wrap64 ((l0.length : Int) - 1))).f0) != 13)) else (none)) else (none)))
set_option maxHeartbeats 8000000 in
set_option maxRecDepth 100000 in
theorem spec_CodeOk.calls (k : Nat) (A0 : Option Addr) (c0 : Nat) (l0 : List (S42)) (r : Bool) (w : World) (hr0 : Kd.C k42 w A0 l0.length l0) (hc0 : l0.length ≤ c0) (h : spec_CodeOk.f k l0 = some r) :
  Calls Try.prog 13 #[.slice A0 l0.length c0] w fun e w'=>e = .returned (.bool r) ∧ Below w.heap.size w w':=by
 have hu42:=Try.underlying42;have HR0:=Aside0.mk hr0;have HC0:=Aside0.mk hc0;clear hr0 hc0;have HB:=Aside0.mk (Below.refl w.heap.size w);have H : (if (l0.length : Int) < 1 then (spec_CodeOk.j0 k l0 (l0.length : Int) true) else (if (l0.length : Int) > 60 then (spec_CodeOk.j0 k l0 (l0.length : Int) true) else (if 0 ≤ (wrap64 ((l0.length : Int) - 1)) then (if (wrap64 ((l0.length : Int) - 1)) < (l0.length : Int) then (spec_CodeOk.j0 k l0 (l0.length : Int) (((rd_T42 l0 (wrap64 ((l0.length : Int) - 1))).f0) != 13)) else (none)) else (none)))) = some r:=h;clear h;have HC2:=Aside0.mk H;clear H;go_enter Try.func13,Try.ntmps13
 go_upto_region 2 with (fail)
 go_cut [23] (fun v23 wc=>∃ (kq : Nat) (x23_1 : Bool),v23 = .bool x23_1 ∧ Aside0 (spec_CodeOk.j0 kq l0 (l0.length : Int) x23_1 = some r) ∧ Aside0 (kq ≤ k) ∧ Aside0 (Below w.heap.size w wc))
 case first =>
  have H:=HC2.out;clear HC2
  by_cases c3 : (l0.length : Int) < 1
  ·rw [if_pos c3] at H;have c3b0 : decide ((l0.length : Int) < 1) = true:=decide_eq_true c3
   have c3b1 : decide (l0.length < 1) = true:=decide_eq_true (by omega)
   clear c3
   (first | rw [c3b0] | (simp only [i64_w,i32_w];rw [c3b0]) | skip)
   have H':=Aside0.mk H;clear H
   go_wp2
   go_meet
   case rel=>exact ⟨_,(true),(by first | rfl | (simp;done) | (simp [*];done)),H',⟨by first | omega | exact Nat.le_refl _⟩,⟨by repeat (first | (with_reducible first | exact HB.out | apply below_alloc | apply pw_below_drewN | apply below_drew1) | exact HB.out)⟩⟩
  ·rw [if_neg c3] at H;have c3b0 : decide ((l0.length : Int) < 1) = false:=decide_eq_false c3
   have c3b1 : decide (l0.length < 1) = false:=decide_eq_false (by omega)
   clear c3
   (first | rw [c3b0] | (simp only [i64_w,i32_w];rw [c3b0]) | skip)
   by_cases c4 : (l0.length : Int) > 60
   ·rw [if_pos c4] at H;have c4b0 : decide (60 < (l0.length : Int)) = true:=decide_eq_true c4
    have c4b1 : decide (60 < l0.length) = true:=decide_eq_true (by omega)
    clear c4;have H':=Aside0.mk H;clear H
    go_wp2
    go_meet
    case rel=>exact ⟨_,(true),(by first | rfl | (simp;done) | (simp [*];done)),H',⟨by first | omega | exact Nat.le_refl _⟩,⟨by repeat (first | (with_reducible first | exact HB.out | apply below_alloc | apply pw_below_drewN | apply below_drew1) | exact HB.out)⟩⟩
   ·rw [if_neg c4] at H;have c4b0 : decide (60 < (l0.length : Int)) = false:=decide_eq_false c4
    have c4b1 : decide (60 < l0.length) = false:=decide_eq_false (by omega)
    clear c4;obtain ⟨ji5,hji5⟩ : ∃ j_ : Int,(wrap64 ((l0.length : Int) - 1)) = j_:=⟨_,rfl⟩
    replace H : (if 0 ≤ (ji5) then (if (ji5) < (l0.length : Int) then (spec_CodeOk.j0 k l0 (l0.length : Int) (((rd_T42 l0 (ji5)).f0) != 13)) else (none)) else (none)) = some r:=by first | (rw [hji5] at H;exact H) | (simp only [hji5] at H ⊢;exact H)
    have hji5w : (IntKind.i64.wrap ((l0.length : Int) - 1)) = ji5:=(i64_w _).trans hji5
    by_cases c6 : 0 ≤ (ji5)
    ·rw [if_pos c6] at H;have c6b0 : decide (0 ≤ (ji5)) = true:=decide_eq_true c6;clear c6
     by_cases c7 : (ji5) < (l0.length : Int)
     ·rw [if_pos c7] at H;have c7b0 : decide ((ji5) < (l0.length : Int)) = true:=decide_eq_true c7;clear c7;have H':=Aside0.mk H;clear H
      have p151 : 0 ≤ ((ji5) : Int):=of_decide_eq_true (by first | (with_reducible assumption) | assumption)
      have q151 : (ji5) < (l0.length : Int):=of_decide_eq_true (by first | (with_reducible assumption) | assumption)
      obtain ⟨ad151,e151,hx151_0,hx151_1,hx151_2,hx151_3⟩:=at_T42 HR0.out (ji5) p151 q151
      cases e151
      replace hx151_0:=(HB.out.cell (O w _ hx151_0)).trans hx151_0;replace hx151_1:=(HB.out.cell (O w _ hx151_1)).trans hx151_1;replace hx151_2:=(HB.out.cell (O w _ hx151_2)).trans hx151_2;replace hx151_3:=(HB.out.cell (O w _ hx151_3)).trans hx151_3;replace p151:=eq_true p151;replace q151:=eq_true q151
      go_wp2
      go_meet
      case rel=>exact ⟨_,((((rd_T42 l0 (ji5)).f0) != 13)),(by first | rfl | (simp;done) | (simp only [← hji5] <;> (first | rfl | simp)) | (simp [*];done)),H',⟨by first | omega | exact Nat.le_refl _⟩,⟨by repeat (first | (with_reducible first | exact HB.out | apply below_alloc | apply pw_below_drewN | apply below_drew1) | exact HB.out)⟩⟩
     ·rw [if_neg c7] at H
      exact absurd H (by simp)
    ·rw [if_neg c6] at H
     exact absurd H (by simp)
 case rest =>
  clear HC2;(try clear c1);(try clear p1);(try clear q1);(try clear hx1);(try clear p2);(try clear c3);(try clear c3b0);(try clear c3b1);(try clear c4);(try clear c4b0);(try clear c4b1);(try clear c6);(try clear c6b0);(try clear p6);(try clear c7);(try clear c7b0);(try clear hx151_0);(try clear hx151_1);(try clear hx151_2);(try clear hx151_3);(try clear p151);(try clear q151);obtain ⟨kq,x23_1,rfl,HA,HJ1,HB⟩:=hcut
  cases kq with
  | zero=>exact absurd HA.out (by simp [spec_CodeOk.j0])
  | succ kj1 =>
   have H:=HA.out;clear HA;simp only [spec_CodeOk.j0] at H
   by_cases c8 : x23_1 = true
   ·subst c8
    have H1 : (some false) = some r:=by rw [if_pos rfl] at H;exact H
    clear H;have H:=H1;clear H1;obtain rfl:=Option.some.inj H
    go_wp2
    go_ret
    exact ⟨by first | rfl | (simp [errW_none,errW_some] <;> rfl) | (simp [*,errW_none,errW_some] <;> rfl),by repeat (first | (with_reducible first | exact HB.out | apply below_alloc | apply pw_below_drewN | apply below_drew1) | exact HB.out)⟩
   ·replace c8:=Bool.eq_false_iff.mpr c8;subst c8
    have H1 : (spec_CodeOk.l0 kj1 l0 (l0.length : Int) 0) = some r:=by rw [if_neg (show ¬ (false = true) by decide)] at H;exact H
    clear H;have H:=H1;clear H1;have H':=Aside0.mk H;clear H
    go_wp2
    go_loopg [4] kj1 (fun kq v4 w'=>∃ (x4_2 : Int),v4 = .int .i64 x4_2 ∧ Aside0 (spec_CodeOk.l0 kq l0 (l0.length : Int) x4_2 = some r) ∧ Aside0 (kq ≤ kj1) ∧ Aside0 (Below w.heap.size w w'))
    case atStart=>exact ⟨(0),(by first | rfl | (simp;done) | (simp [*];done)),H',⟨Nat.le_refl _⟩,⟨by repeat (first | (with_reducible first | exact HB.out | apply below_alloc | apply pw_below_drewN | apply below_drew1) | exact HB.out)⟩⟩
    case round =>
     clear H';(try clear c1);(try clear p1);(try clear q1);(try clear hx1);(try clear p2);(try clear c3);(try clear c3b0);(try clear c3b1);(try clear c4);(try clear c4b0);(try clear c4b1);(try clear c6);(try clear c6b0);(try clear p6);(try clear c7);(try clear c7b0);(try clear c8);(try clear hx151_0);(try clear hx151_1);(try clear hx151_2);(try clear hx151_3);(try clear p1);(try clear p151);(try clear p2);(try clear p6);(try clear q1);(try clear q151);obtain ⟨x4_2,rfl,HA,HK2,HB⟩:=hrel
     cases gk with
     | zero=>exact absurd HA.out (by simp [spec_CodeOk.l0])
     | succ k2 =>
      have H:=HA.out;clear HA;simp only [spec_CodeOk.l0] at H
      by_cases c9 : x4_2 < (l0.length : Int)
      ·rw [if_pos c9] at H;have c9b0 : decide (x4_2 < (l0.length : Int)) = true:=decide_eq_true c9;clear c9
       by_cases c10 : 0 ≤ x4_2
       ·rw [if_pos c10] at H;have c10b0 : decide (0 ≤ x4_2) = true:=decide_eq_true c10;clear c10
        by_cases c11 : x4_2 < (l0.length : Int)
        ·rw [if_pos c11] at H;have c11b0 : decide (x4_2 < (l0.length : Int)) = true:=decide_eq_true c11;clear c11;replace H:=Option.bind_eq_some_iff.mp H;obtain ⟨t153,A120,H⟩:=H;replace H : (if t153 = true then (if ((rd_T42 l0 x4_2).f0) = 13 then (if x4_2 < (wrap64 ((l0.length : Int) - 1)) then (some false) else (spec_CodeOk.l0 k2 l0 (l0.length : Int) (wrap64 (x4_2 + 1)))) else (spec_CodeOk.l0 k2 l0 (l0.length : Int) (wrap64 (x4_2 + 1)))) else (some false)) = some r:=H;have A12:=Aside0.mk A120;clear A120
         by_cases c13 : t153 = true
         ·subst c13
          have H1 : (if ((rd_T42 l0 x4_2).f0) = 13 then (if x4_2 < (wrap64 ((l0.length : Int) - 1)) then (some false) else (spec_CodeOk.l0 k2 l0 (l0.length : Int) (wrap64 (x4_2 + 1)))) else (spec_CodeOk.l0 k2 l0 (l0.length : Int) (wrap64 (x4_2 + 1)))) = some r:=by rw [if_pos rfl] at H;exact H
          clear H;have H:=H1;clear H1
          by_cases c14 : ((rd_T42 l0 x4_2).f0) = 13
          ·rw [if_pos c14] at H;have c14b0 : (((rd_T42 l0 x4_2).f0) == 13) = true:=beq_iff_eq.mpr c14;have c14b1 : (((rd_T42 l0 x4_2).f0) != 13) = false:=bne_eq_false_iff_eq.mpr c14;clear c14
           by_cases c15 : x4_2 < (wrap64 ((l0.length : Int) - 1))
           ·rw [if_pos c15] at H;have c15b0 : decide (x4_2 < (wrap64 ((l0.length : Int) - 1))) = true:=decide_eq_true c15;clear c15;obtain rfl:=Option.some.inj H
            have p152 : 0 ≤ (x4_2 : Int):=of_decide_eq_true (by first | (with_reducible assumption) | assumption)
            have q152 : x4_2 < (l0.length : Int):=of_decide_eq_true (by first | (with_reducible assumption) | assumption)
            obtain ⟨ad152,e152,hx152_0,hx152_1,hx152_2,hx152_3⟩:=at_T42 HR0.out x4_2 p152 q152
            cases e152
            replace hx152_0:=(HB.out.cell (O w _ hx152_0)).trans hx152_0;replace hx152_1:=(HB.out.cell (O w _ hx152_1)).trans hx152_1;replace hx152_2:=(HB.out.cell (O w _ hx152_2)).trans hx152_2;replace hx152_3:=(HB.out.cell (O w _ hx152_3)).trans hx152_3;replace p152:=eq_true p152;replace q152:=eq_true q152
            go_wp2_with (first | ((with_reducible refine gate_callee (f:=33) rfl ?_);refine goesM_ (some 34) Try.func33 #[.agg #[.int .i64 ((rd_T42 l0 x4_2).f0),.int .i64 ((rd_T42 l0 x4_2).f1),.int .i64 ((rd_T42 l0 x4_2).f2),.int .i64 ((rd_T42 l0 x4_2).f3)],.int .i64 (l0.length : Int)] ?_;(with_reducible refine (spec_l4Ins.calls k2 ((rd_T42 l0 x4_2).f0) ((rd_T42 l0 x4_2).f1) ((rd_T42 l0 x4_2).f2) ((rd_T42 l0 x4_2).f3) (l0.length : Int) true _ A12.out).mono ?_);rintro e w16 ⟨rfl,hb⟩;refine ⟨_,rfl,?_⟩;have n0_:=Aside0.mk (below_step (q0_ HB) hb);clear HB;have HB:=n0_;clear n0_;(try clear hb);have p154 : 0 ≤ (x4_2 : Int):=of_decide_eq_true (by first | (with_reducible assumption) | assumption);have q154 : x4_2 < (l0.length : Int):=of_decide_eq_true (by first | (with_reducible assumption) | assumption);obtain ⟨ad154,e154,hx154_0,hx154_1,hx154_2,hx154_3⟩:=at_T42 HR0.out x4_2 p154 q154;obtain rfl : ad152 = ad154:=(by injection e154);replace hx154_0:=(HB.out.cell (O w _ hx154_0)).trans hx154_0;replace hx154_1:=(HB.out.cell (O w _ hx154_1)).trans hx154_1;replace hx154_2:=(HB.out.cell (O w _ hx154_2)).trans hx154_2;replace hx154_3:=(HB.out.cell (O w _ hx154_3)).trans hx154_3;replace p154:=eq_true p154;replace q154:=eq_true q154))
            go_ret
            exact ⟨by first | rfl | (simp [errW_none,errW_some] <;> rfl) | (simp [*,errW_none,errW_some] <;> rfl),by repeat (first | (with_reducible first | exact HB.out | apply below_alloc | apply pw_below_drewN | apply below_drew1) | exact HB.out)⟩
           ·rw [if_neg c15] at H;have c15b0 : decide (x4_2 < (wrap64 ((l0.length : Int) - 1))) = false:=decide_eq_false c15;clear c15;have H':=Aside0.mk H;clear H
            have p152 : 0 ≤ (x4_2 : Int):=of_decide_eq_true (by first | (with_reducible assumption) | assumption)
            have q152 : x4_2 < (l0.length : Int):=of_decide_eq_true (by first | (with_reducible assumption) | assumption)
            obtain ⟨ad152,e152,hx152_0,hx152_1,hx152_2,hx152_3⟩:=at_T42 HR0.out x4_2 p152 q152
            cases e152
            replace hx152_0:=(HB.out.cell (O w _ hx152_0)).trans hx152_0;replace hx152_1:=(HB.out.cell (O w _ hx152_1)).trans hx152_1;replace hx152_2:=(HB.out.cell (O w _ hx152_2)).trans hx152_2;replace hx152_3:=(HB.out.cell (O w _ hx152_3)).trans hx152_3;replace p152:=eq_true p152;replace q152:=eq_true q152
            go_wp2_with (first | ((with_reducible refine gate_callee (f:=33) rfl ?_);refine goesM_ (some 34) Try.func33 #[.agg #[.int .i64 ((rd_T42 l0 x4_2).f0),.int .i64 ((rd_T42 l0 x4_2).f1),.int .i64 ((rd_T42 l0 x4_2).f2),.int .i64 ((rd_T42 l0 x4_2).f3)],.int .i64 (l0.length : Int)] ?_;(with_reducible refine (spec_l4Ins.calls k2 ((rd_T42 l0 x4_2).f0) ((rd_T42 l0 x4_2).f1) ((rd_T42 l0 x4_2).f2) ((rd_T42 l0 x4_2).f3) (l0.length : Int) true _ A12.out).mono ?_);rintro e w17 ⟨rfl,hb⟩;refine ⟨_,rfl,?_⟩;have n0_:=Aside0.mk (below_step (q0_ HB) hb);clear HB;have HB:=n0_;clear n0_;(try clear hb);have p154 : 0 ≤ (x4_2 : Int):=of_decide_eq_true (by first | (with_reducible assumption) | assumption);have q154 : x4_2 < (l0.length : Int):=of_decide_eq_true (by first | (with_reducible assumption) | assumption);obtain ⟨ad154,e154,hx154_0,hx154_1,hx154_2,hx154_3⟩:=at_T42 HR0.out x4_2 p154 q154;obtain rfl : ad152 = ad154:=(by injection e154);replace hx154_0:=(HB.out.cell (O w _ hx154_0)).trans hx154_0;replace hx154_1:=(HB.out.cell (O w _ hx154_1)).trans hx154_1;replace hx154_2:=(HB.out.cell (O w _ hx154_2)).trans hx154_2;replace hx154_3:=(HB.out.cell (O w _ hx154_3)).trans hx154_3;replace p154:=eq_true p154;replace q154:=eq_true q154))
            go_roundg k2
            case measure=>have:=HJ1.out;have:=HK2.out;omega
            case rel=>exact ⟨(wrap64 (x4_2 + 1)),(by first | rfl | (simp;done) | (simp [*];done)),H',⟨by have:=HJ1.out;have:=HK2.out;omega⟩,⟨by repeat (first | (with_reducible first | exact HB.out | apply below_alloc | apply pw_below_drewN | apply below_drew1) | exact HB.out)⟩⟩
          ·rw [if_neg c14] at H;have c14b0 : (((rd_T42 l0 x4_2).f0) == 13) = false:=beq_eq_false_iff_ne.mpr c14;have c14b1 : (((rd_T42 l0 x4_2).f0) != 13) = true:=bne_iff_ne.mpr c14;have H':=Aside0.mk H;clear H
           have p152 : 0 ≤ (x4_2 : Int):=of_decide_eq_true (by first | (with_reducible assumption) | assumption)
           have q152 : x4_2 < (l0.length : Int):=of_decide_eq_true (by first | (with_reducible assumption) | assumption)
           obtain ⟨ad152,e152,hx152_0,hx152_1,hx152_2,hx152_3⟩:=at_T42 HR0.out x4_2 p152 q152
           cases e152
           replace hx152_0:=(HB.out.cell (O w _ hx152_0)).trans hx152_0;replace hx152_1:=(HB.out.cell (O w _ hx152_1)).trans hx152_1;replace hx152_2:=(HB.out.cell (O w _ hx152_2)).trans hx152_2;replace hx152_3:=(HB.out.cell (O w _ hx152_3)).trans hx152_3;replace p152:=eq_true p152;replace q152:=eq_true q152
           go_wp2_with (first | ((with_reducible refine gate_callee (f:=33) rfl ?_);refine goesM_ (some 34) Try.func33 #[.agg #[.int .i64 ((rd_T42 l0 x4_2).f0),.int .i64 ((rd_T42 l0 x4_2).f1),.int .i64 ((rd_T42 l0 x4_2).f2),.int .i64 ((rd_T42 l0 x4_2).f3)],.int .i64 (l0.length : Int)] ?_;(with_reducible refine (spec_l4Ins.calls k2 ((rd_T42 l0 x4_2).f0) ((rd_T42 l0 x4_2).f1) ((rd_T42 l0 x4_2).f2) ((rd_T42 l0 x4_2).f3) (l0.length : Int) true _ A12.out).mono ?_);rintro e w18 ⟨rfl,hb⟩;refine ⟨_,rfl,?_⟩;have n0_:=Aside0.mk (below_step (q0_ HB) hb);clear HB;have HB:=n0_;clear n0_;(try clear hb);have p154 : 0 ≤ (x4_2 : Int):=of_decide_eq_true (by first | (with_reducible assumption) | assumption);have q154 : x4_2 < (l0.length : Int):=of_decide_eq_true (by first | (with_reducible assumption) | assumption);obtain ⟨ad154,e154,hx154_0,hx154_1,hx154_2,hx154_3⟩:=at_T42 HR0.out x4_2 p154 q154;obtain rfl : ad152 = ad154:=(by injection e154);replace hx154_0:=(HB.out.cell (O w _ hx154_0)).trans hx154_0;replace hx154_1:=(HB.out.cell (O w _ hx154_1)).trans hx154_1;replace hx154_2:=(HB.out.cell (O w _ hx154_2)).trans hx154_2;replace hx154_3:=(HB.out.cell (O w _ hx154_3)).trans hx154_3;replace p154:=eq_true p154;replace q154:=eq_true q154))
           go_roundg k2
           case measure=>have:=HJ1.out;have:=HK2.out;omega
           case rel=>exact ⟨(wrap64 (x4_2 + 1)),(by first | rfl | (simp;done) | (simp [*];done)),H',⟨by have:=HJ1.out;have:=HK2.out;omega⟩,⟨by repeat (first | (with_reducible first | exact HB.out | apply below_alloc | apply pw_below_drewN | apply below_drew1) | exact HB.out)⟩⟩
         ·replace c13:=Bool.eq_false_iff.mpr c13;subst c13
          have H1 : (some false) = some r:=by rw [if_neg (show ¬ (false = true) by decide)] at H;exact H
          clear H;have H:=H1;clear H1;obtain rfl:=Option.some.inj H
          have p152 : 0 ≤ (x4_2 : Int):=of_decide_eq_true (by first | (with_reducible assumption) | assumption)
          have q152 : x4_2 < (l0.length : Int):=of_decide_eq_true (by first | (with_reducible assumption) | assumption)
          obtain ⟨ad152,e152,hx152_0,hx152_1,hx152_2,hx152_3⟩:=at_T42 HR0.out x4_2 p152 q152
          cases e152
          replace hx152_0:=(HB.out.cell (O w _ hx152_0)).trans hx152_0;replace hx152_1:=(HB.out.cell (O w _ hx152_1)).trans hx152_1;replace hx152_2:=(HB.out.cell (O w _ hx152_2)).trans hx152_2;replace hx152_3:=(HB.out.cell (O w _ hx152_3)).trans hx152_3;replace p152:=eq_true p152;replace q152:=eq_true q152
          go_wp2_with (first | ((with_reducible refine gate_callee (f:=33) rfl ?_);refine goesM_ (some 34) Try.func33 #[.agg #[.int .i64 ((rd_T42 l0 x4_2).f0),.int .i64 ((rd_T42 l0 x4_2).f1),.int .i64 ((rd_T42 l0 x4_2).f2),.int .i64 ((rd_T42 l0 x4_2).f3)],.int .i64 (l0.length : Int)] ?_;(with_reducible refine (spec_l4Ins.calls k2 ((rd_T42 l0 x4_2).f0) ((rd_T42 l0 x4_2).f1) ((rd_T42 l0 x4_2).f2) ((rd_T42 l0 x4_2).f3) (l0.length : Int) false _ A12.out).mono ?_);rintro e w19 ⟨rfl,hb⟩;refine ⟨_,rfl,?_⟩;have n0_:=Aside0.mk (below_step (q0_ HB) hb);clear HB;have HB:=n0_;clear n0_;(try clear hb)))
          go_ret
          exact ⟨by first | rfl | (simp [errW_none,errW_some] <;> rfl) | (simp [*,errW_none,errW_some] <;> rfl),by repeat (first | (with_reducible first | exact HB.out | apply below_alloc | apply pw_below_drewN | apply below_drew1) | exact HB.out)⟩
        ·rw [if_neg c11] at H
         exact absurd H (by simp)
       ·rw [if_neg c10] at H
        exact absurd H (by simp)
      ·rw [if_neg c9] at H;have c9b0 : decide (x4_2 < (l0.length : Int)) = false:=decide_eq_false c9;clear c9;replace H:=Option.bind_eq_some_iff.mp H;obtain ⟨⟨t155,t156⟩,A200,H⟩:=H;replace H : (some t156) = some r:=H;have A20:=Aside0.mk A200;clear A200;obtain rfl:=Option.some.inj H
       go_wp2_with (first | ((with_reducible refine gate_callee (f:=34) rfl ?_);refine goesM_ (some 52) Try.func34 #[.slice A0 l0.length c0] ?_;(with_reducible refine (spec_l4Rooms.calls k2 _ _ l0 t155 t156 _ ?side1 ?side2 A20.out).mono ?_);(case side1=>repeat (first | exact (Kd.C_below HR0.out HB.out) | (with_reducible refine Kd.C_alloc ?_ _) | (with_reducible refine Kd.C_drewN ?_ _) | (with_reducible refine Kd.C_drew ?_)));(case side2=>exact HC0.out);rintro e w21 ⟨v157,rfl,ho0,hb⟩;refine ⟨_,rfl,?_⟩;have n0_:=Aside0.mk (Kd.R_lower ho0 (below_size (q0_ HB)));have n1_:=Aside0.mk (below_step (q0_ HB) hb);clear HB;have HO158:=n0_;have HB:=n1_;clear n0_ n1_;(try clear hb);(try clear ho0)))
       go_ret
       exact ⟨by first | rfl | (simp [errW_none,errW_some] <;> rfl) | (simp [*,errW_none,errW_some] <;> rfl),by repeat (first | (with_reducible first | exact HB.out | apply below_alloc | apply pw_below_drewN | apply below_drew1) | exact HB.out)⟩
end Go.Proofs.Ytphbdoljkpdflaa.P

namespace Go.Proofs.Ytphbdoljkpdflaa.P
open Go.RowKit Go.Proofs.YtphbdoljkpdflaaW.PrintWords Go.Proofs.YtphbdoljkpdflaaW.PrintLast Go.Proofs.YtphbdoljkpdflaaW.PrintMore
open Bool renaming true → O, false → Z
open Go.Proofs.YtphbdoljkpdflaaW.PrintWords renaming Aside0.mk → J
open List renaming setIfInBounds_toArray → Y, set_cons_zero → E, set_cons_succ → U
open Go renaming World.block_lt_of_cell? → G
attribute [local go_sem] max2_int min2_int max_two min_two max_three min_three max_four min_four
set_option linter.unusedVariables false
set_option linter.unusedSimpArgs false
mutual
def spec_l2Many.l0 : Nat → List (S46) → Int → Int → Int → Option (Int)
 | 0,_,_,_,_=>none
 | k + 1,x0,x1,x5,x6=>if x6 < (x0.length : Int) then (spec_l2Many.j1 k x0 x1 x5 x6 (decide (x1 > 0))) else (spec_l2Many.j1 k x0 x1 x5 x6 false)
def spec_l2Many.j1 : Nat → List (S46) → Int → Int → Int → Bool → Option (Int)
 | 0,_,_,_,_,_=>none
 | k + 1,x0,x1,x5,x6,x14=>if x14 = true then (if 0 ≤ x6 then (if x6 < (x0.length : Int) then ((spec_l2Many.f k ((rd_T46 x0 x6).f4) (wrap64 (x1 - 1))).bind fun t245=>((spec_l2Many.f k ((rd_T46 x0 x6).f5) (wrap64 (x1 - 1))).bind fun t247=>(spec_l2Many.l0 k x0 x1 (wrap64 ((wrap64 ((wrap64 (x5 + 1)) + t245)) + t247)) (wrap64 (x6 + 1))))) else (none)) else (none)) else (some x5)
def spec_l2Many.f : Nat → List (S46) → Int → Option (Int)
 | 0,_,_=>none
 | k + 1,l0,a1=>spec_l2Many.l0 k l0 a1 0 0
end
def spec_l2Many.T5 : Bool × List (List Nat × List Nat):=(true,[([],[]),([0],[0]),([],[]),([],[]),([2,3],[2,3]),([4],[4]),([5],[5]),([],[]),([7],[7]),([6,8],[6,8]),([1,9],[1,9]),([],[]),([],[]),([11,12],[11,12]),([13],[13]),([14],[14]),([],[]),([16],[16]),([15,17,9],[15,17]),([10,18],[10,18]),([19,18,0,1,2,3,4,5,6,7,8,9,10,11,12,13,14,15,16,17,18,19],[0,19])])
def spec_l2Many.B5 : List Nat:=[0,1,0,0,12,28,60,0,128,508,1023,0,0,6144,14336,30720,0,65536,261116,524287,1048575]
theorem spec_l2Many.tab5 : rtab .any (opsOf Try.f47 5) = spec_l2Many.T5:=by kernel_rfl
theorem spec_l2Many.bits5 : waitsOk spec_l2Many.T5.2 spec_l2Many.B5 = true:=by kernel_rfl
set_option maxHeartbeats 8000000 in
set_option maxRecDepth 100000 in
theorem spec_l2Many.calls (k : Nat) : ∀ (A0 : Option Addr) (c0 : Nat) (l0 : List (S46)) (a1 : Int) (r : Int) (w : World) (hr0 : Kd.C k46 w A0 l0.length l0) (hc0 : l0.length ≤ c0) (h : spec_l2Many.f k l0 a1 = some r),
  Calls Try.prog 47 #[.slice A0 l0.length c0,.int .i64 a1] w fun e w'=>e = .returned (.int .i64 r) ∧ Below w.heap.size w w':=by
 induction k using Nat.strongRecOn with
 | _ k ih =>
 intro A0 c0 l0 a1 r w hr0 hc0 h
 cases k with
 | zero=>exact absurd h (by simp [spec_l2Many.f])
 | succ k =>
 simp only [spec_l2Many.f] at h;have HR0:=J hr0;have HC0:=J hc0;clear hr0 hc0;have HB:=J (Below.refl w.heap.size w);have H : (spec_l2Many.l0 k l0 a1 0 0) = some r:=h;clear h;have H':=J H;clear H;go_enter Try.func47,Try.ntmps47
 go_wp2
 go_loopg [5,6] k (fun kq v5 v6 w'=>∃ (x5_1 : Int) (x6_1 : Int),v5 = .int .i64 x5_1 ∧ v6 = .int .i64 x6_1 ∧ Aside0 (spec_l2Many.l0 kq l0 a1 x5_1 x6_1 = some r) ∧ Aside0 (kq ≤ k) ∧ Aside0 (Below w.heap.size w w'))
 case atStart=>exact ⟨(0),(0),(by first | rfl | (simp;done) | (simp [*];done)),(by first | rfl | (simp;done) | (simp [*];done)),H',⟨Nat.le_refl _⟩,⟨by repeat (first | (with_reducible first | exact HB.out | apply below_alloc | apply pw_below_drewN | apply below_drew1) | exact HB.out)⟩⟩
 case round =>
  clear H';(try clear p2);obtain ⟨x5_1,x6_1,rfl,rfl,HA,HK1,HB⟩:=hrel
  cases gk with
  | zero=>exact absurd HA.out (by simp [spec_l2Many.l0])
  | succ k1 =>
   have H:=HA.out;clear HA;simp only [spec_l2Many.l0] at H;have HC3:=J H;clear H
   go_upto_region 3 with (fail)
   go_cut [14] (fun v14 wc=>∃ (kq : Nat) (x14_2 : Bool),v14 = .bool x14_2 ∧ Aside0 (spec_l2Many.j1 kq l0 a1 x5_1 x6_1 x14_2 = some r) ∧ Aside0 (kq ≤ k1) ∧ Aside0 (Below w.heap.size w wc))
   case first =>
    have H:=HC3.out;clear HC3
    by_cases c4 : x6_1 < (l0.length : Int)
    ·rw [if_pos c4] at H;have c4b0 : decide (x6_1 < (l0.length : Int)) = true:=decide_eq_true c4;clear c4
     (first | rw [c4b0] | (simp only [i64_w,i32_w];rw [c4b0]) | skip)
     have H':=J H;clear H
     go_wp2
     go_meet
     case rel=>exact ⟨_,(decide (a1 > 0)),(by first | rfl | (simp;done) | (simp [*];done)),H',⟨by have:=HK1.out;first | omega | exact Nat.le_refl _⟩,⟨by repeat (first | (with_reducible first | exact HB.out | apply below_alloc | apply pw_below_drewN | apply below_drew1) | exact HB.out)⟩⟩
    ·rw [if_neg c4] at H;have c4b0 : decide (x6_1 < (l0.length : Int)) = false:=decide_eq_false c4;clear c4
     (first | rw [c4b0] | (simp only [i64_w,i32_w];rw [c4b0]) | skip)
     have H':=J H;clear H
     go_wp2
     go_meet
     case rel=>exact ⟨_,(false),(by first | rfl | (simp;done) | (simp [*];done)),H',⟨by have:=HK1.out;first | omega | exact Nat.le_refl _⟩,⟨by repeat (first | (with_reducible first | exact HB.out | apply below_alloc | apply pw_below_drewN | apply below_drew1) | exact HB.out)⟩⟩
   case rest =>
    clear HC3;(try clear p2);(try clear c4);(try clear c4b0);(try clear p2);obtain ⟨kq,x14_2,rfl,HA,HJ2,HB⟩:=hcut
    cases kq with
    | zero=>exact absurd HA.out (by simp [spec_l2Many.j1])
    | succ kj2 =>
     have H:=HA.out;clear HA;simp only [spec_l2Many.j1] at H
     by_cases c5 : x14_2 = true
     ·subst c5
      have H1 : (if 0 ≤ x6_1 then (if x6_1 < (l0.length : Int) then ((spec_l2Many.f kj2 ((rd_T46 l0 x6_1).f4) (wrap64 (a1 - 1))).bind fun t245=>((spec_l2Many.f kj2 ((rd_T46 l0 x6_1).f5) (wrap64 (a1 - 1))).bind fun t247=>(spec_l2Many.l0 kj2 l0 a1 (wrap64 ((wrap64 ((wrap64 (x5_1 + 1)) + t245)) + t247)) (wrap64 (x6_1 + 1))))) else (none)) else (none)) = some r:=by rw [if_pos rfl] at H;exact H
      clear H;have H:=H1;clear H1
      by_cases c6 : 0 ≤ x6_1
      ·rw [if_pos c6] at H;have c6b0 : decide (0 ≤ x6_1) = true:=decide_eq_true c6;clear c6
       by_cases c7 : x6_1 < (l0.length : Int)
       ·rw [if_pos c7] at H;have c7b0 : decide (x6_1 < (l0.length : Int)) = true:=decide_eq_true c7;clear c7;replace H:=Option.bind_eq_some_iff.mp H;obtain ⟨t245,A80,H⟩:=H;replace H : ((spec_l2Many.f kj2 ((rd_T46 l0 x6_1).f5) (wrap64 (a1 - 1))).bind fun t247=>(spec_l2Many.l0 kj2 l0 a1 (wrap64 ((wrap64 ((wrap64 (x5_1 + 1)) + t245)) + t247)) (wrap64 (x6_1 + 1)))) = some r:=H;have A8:=J A80;clear A80;replace H:=Option.bind_eq_some_iff.mp H;obtain ⟨t247,A90,H⟩:=H;replace H : (spec_l2Many.l0 kj2 l0 a1 (wrap64 ((wrap64 ((wrap64 (x5_1 + 1)) + t245)) + t247)) (wrap64 (x6_1 + 1))) = some r:=H;have A9:=J A90;clear A90;have H':=J H;clear H
        try go_wp2
        have n0_:=J (below_drew1 HB.out);clear HB;have HB:=n0_;clear n0_
        have p244 : 0 ≤ (x6_1 : Int):=of_decide_eq_true (by first | (with_reducible assumption) | assumption)
        have q244 : x6_1 < (l0.length : Int):=of_decide_eq_true (by first | (with_reducible assumption) | assumption)
        obtain ⟨ad244,A244_4,c244_4,A244_5,c244_5,e244,hx244_0,hx244_1,hx244_2,hx244_3,hx244_4,hx244_5,hl244_4,hi244_4,hl244_5,hi244_5⟩:=at_T46 HR0.out x6_1 p244 q244;have hw244_5:=hx244_5;have hw244_4:=hx244_4;have hw244_3:=hx244_3;have hw244_2:=hx244_2;have hw244_1:=hx244_1;have hw244_0:=hx244_0
        cases e244
        replace hx244_0:=(HB.out.cell (G w _ hx244_0)).trans hx244_0;replace hx244_1:=(HB.out.cell (G w _ hx244_1)).trans hx244_1;replace hx244_2:=(HB.out.cell (G w _ hx244_2)).trans hx244_2;replace hx244_3:=(HB.out.cell (G w _ hx244_3)).trans hx244_3;replace hx244_4:=(HB.out.cell (G w _ hx244_4)).trans hx244_4;replace hx244_5:=(HB.out.cell (G w _ hx244_5)).trans hx244_5;have HR244_4:=J hi244_4;have HC244_4:=J hl244_4;clear hi244_4 hl244_4;have HR244_5:=J hi244_5;have HC244_5:=J hl244_5;clear hi244_5 hl244_5;replace p244:=eq_true p244;replace q244:=eq_true q244
        have p246 : 0 ≤ (x6_1 : Int):=of_decide_eq_true (by first | (with_reducible assumption) | assumption)
        have q246 : x6_1 < (l0.length : Int):=of_decide_eq_true (by first | (with_reducible assumption) | assumption)
        obtain ⟨ad246,A246_4,c246_4,A246_5,c246_5,e246,hx246_0,hx246_1,hx246_2,hx246_3,hx246_4,hx246_5,hl246_4,hi246_4,hl246_5,hi246_5⟩:=at_T46 HR0.out x6_1 p246 q246;have hw246_5:=hx246_5;have hw246_4:=hx246_4;have hw246_3:=hx246_3;have hw246_2:=hx246_2;have hw246_1:=hx246_1;have hw246_0:=hx246_0
        obtain rfl : ad244 = ad246:=(by injection e246)
        replace hx246_0:=(HB.out.cell (G w _ hx246_0)).trans hx246_0;replace hx246_1:=(HB.out.cell (G w _ hx246_1)).trans hx246_1;replace hx246_2:=(HB.out.cell (G w _ hx246_2)).trans hx246_2;replace hx246_3:=(HB.out.cell (G w _ hx246_3)).trans hx246_3;replace hx246_4:=(HB.out.cell (G w _ hx246_4)).trans hx246_4;replace hx246_5:=(HB.out.cell (G w _ hx246_5)).trans hx246_5;have HR246_4:=J hi246_4;have HC246_4:=J hl246_4;clear hi246_4 hl246_4;have HR246_5:=J hi246_5;have HC246_5:=J hl246_5;clear hi246_5 hl246_5;replace p246:=eq_true p246;replace q246:=eq_true q246;have ea_:=Option.some.inj (hx244_4.symm.trans hx246_4)
        injection ea_ with ea_ en_ ec_
        subst ea_;subst ec_;clear en_;have ea_:=Option.some.inj (hx244_5.symm.trans hx246_5)
        injection ea_ with ea_ en_ ec_
        subst ea_;subst ec_;clear en_
        refine start_ (n:=21) (S:=fun w'=>w'.cell? (ad244.add ((x6_1).toNat * 6)) = some (.int .i64 ((rd_T46 l0 x6_1).f0)) ∧ w'.cell? ⟨(ad244.add ((x6_1).toNat * 6)).block,(ad244.add ((x6_1).toNat * 6)).off + 1,none⟩ = some (.int .i64 ((rd_T46 l0 x6_1).f1)) ∧ w'.cell? ⟨(ad244.add ((x6_1).toNat * 6)).block,(ad244.add ((x6_1).toNat * 6)).off + 2,none⟩ = some (.int .i64 ((rd_T46 l0 x6_1).f2)) ∧ w'.cell? ⟨(ad244.add ((x6_1).toNat * 6)).block,(ad244.add ((x6_1).toNat * 6)).off + 3,none⟩ = some (.int .i64 ((rd_T46 l0 x6_1).f3)) ∧ w'.cell? ⟨(ad244.add ((x6_1).toNat * 6)).block,(ad244.add ((x6_1).toNat * 6)).off + 4,none⟩ = some (.slice A244_4 ((rd_T46 l0 x6_1).f4).length c244_4) ∧ w'.cell? ⟨(ad244.add ((x6_1).toNat * 6)).block,(ad244.add ((x6_1).toNat * 6)).off + 5,none⟩ = some (.slice A244_5 ((rd_T46 l0 x6_1).f5).length c244_5) ∧ w'.cell? (ad244.add ((x6_1).toNat * 6)) = some (.int .i64 ((rd_T46 l0 x6_1).f0)) ∧ w'.cell? ⟨(ad244.add ((x6_1).toNat * 6)).block,(ad244.add ((x6_1).toNat * 6)).off + 1,none⟩ = some (.int .i64 ((rd_T46 l0 x6_1).f1)) ∧ w'.cell? ⟨(ad244.add ((x6_1).toNat * 6)).block,(ad244.add ((x6_1).toNat * 6)).off + 2,none⟩ = some (.int .i64 ((rd_T46 l0 x6_1).f2)) ∧ w'.cell? ⟨(ad244.add ((x6_1).toNat * 6)).block,(ad244.add ((x6_1).toNat * 6)).off + 3,none⟩ = some (.int .i64 ((rd_T46 l0 x6_1).f3)) ∧ w'.cell? ⟨(ad244.add ((x6_1).toNat * 6)).block,(ad244.add ((x6_1).toNat * 6)).off + 4,none⟩ = some (.slice A244_4 ((rd_T46 l0 x6_1).f4).length c244_4) ∧ w'.cell? ⟨(ad244.add ((x6_1).toNat * 6)).block,(ad244.add ((x6_1).toNat * 6)).off + 5,none⟩ = some (.slice A244_5 ((rd_T46 l0 x6_1).f5).length c244_5)) (ds:=[]) #[Z,Z,Z,Z,Z,Z,Z,Z,Z,Z,Z,Z,Z,Z,Z,Z,Z,Z,Z,Z,Z] (by kernel_rfl) rfl rfl ⟨((HB.out.cell (G w _ hw244_0)).trans hw244_0),((HB.out.cell (G w _ hw244_1)).trans hw244_1),((HB.out.cell (G w _ hw244_2)).trans hw244_2),((HB.out.cell (G w _ hw244_3)).trans hw244_3),((HB.out.cell (G w _ hw244_4)).trans hw244_4),((HB.out.cell (G w _ hw244_5)).trans hw244_5),((HB.out.cell (G w _ hw246_0)).trans hw246_0),((HB.out.cell (G w _ hw246_1)).trans hw246_1),((HB.out.cell (G w _ hw246_2)).trans hw246_2),((HB.out.cell (G w _ hw246_3)).trans hw246_3),((HB.out.cell (G w _ hw246_4)).trans hw246_4),((HB.out.cell (G w _ hw246_5)).trans hw246_5)⟩ (fun hHeld=>?_);refine with_tabW spec_l2Many.tab5 spec_l2Many.bits5 (fun HT_ HW_=>?_)
        generalize wc.drew = w10 at HB HR244_4 HR244_5 HR246_4 HR246_5 hx244_0 hx244_1 hx244_2 hx244_3 hx244_4 hx244_5 hx246_0 hx246_1 hx246_2 hx246_3 hx246_4 hx246_5 hHeld ⊢
        refine pure_ (i:=0) (N:=some 17) (v:=?_) (a':=?_) #[O,Z,Z,Z,Z,Z,Z,Z,Z,Z,Z,Z,Z,Z,Z,Z,Z,Z,Z,Z,Z] rfl rfl (any_of HT_.out (by kernel_rfl)) (fun _ _ _ h=>h) (Or.inl ⟨by rfl,?_⟩) ?_ ?_;rotate_left;(intro w';go_simp;with_reducible rfl);rotate_left;((try simp only [Act.put,Y,E,U,i64_w,i32_w]);rfl)
        refine pure_ (i:=1) (N:=some 18) (v:=?_) (a':=?_) #[O,O,Z,Z,Z,Z,Z,Z,Z,Z,Z,Z,Z,Z,Z,Z,Z,Z,Z,Z,Z] rfl rfl (any_of HT_.out (by kernel_rfl)) (fun _ _ _ h=>h) (Or.inl ⟨by rfl,?_⟩) ?_ ?_;rotate_left;(intro w';go_simp;with_reducible rfl);rotate_left;((try simp only [Act.put,Y,E,U,i64_w,i32_w]);rfl)
        refine pure_ (i:=2) (N:=some 19) (v:=?_) (a':=?_) #[O,O,O,Z,Z,Z,Z,Z,Z,Z,Z,Z,Z,Z,Z,Z,Z,Z,Z,Z,Z] rfl rfl (any_of HT_.out (by kernel_rfl)) (fun _ _ _ h=>h) (Or.inl ⟨by rfl,?_⟩) ?_ ?_;rotate_left;(intro w';go_simp;with_reducible rfl);rotate_left;((try simp only [Act.put,Y,E,U,i64_w,i32_w]);rfl)
        refine pure_ (i:=3) (N:=some 20) (v:=?_) (a':=?_) #[O,O,O,O,Z,Z,Z,Z,Z,Z,Z,Z,Z,Z,Z,Z,Z,Z,Z,Z,Z] rfl rfl (any_of HT_.out (by kernel_rfl)) (fun _ _ _ h=>h) (Or.inl ⟨by rfl,?_⟩) ?_ ?_;rotate_left;(intro w';go_simp;with_reducible rfl);rotate_left;((try simp only [Act.put,Y,E,U,i64_w,i32_w]);rfl)
        refine pure_ (i:=4) (N:=some 21) (v:=?_) (a':=?_) #[O,O,O,O,O,Z,Z,Z,Z,Z,Z,Z,Z,Z,Z,Z,Z,Z,Z,Z,Z] rfl rfl (any_of HT_.out (by kernel_rfl)) (fun _ _ _ h=>h) (Or.inl ⟨by rfl,?_⟩) ?_ ?_;rotate_left;(intro w';go_simp;with_reducible rfl);rotate_left;((try simp only [Act.put,Y,E,U,i64_w,i32_w]);rfl)
        refine pure_ (i:=5) (N:=some 22) (v:=?_) (a':=?_) #[O,O,O,O,O,O,Z,Z,Z,Z,Z,Z,Z,Z,Z,Z,Z,Z,Z,Z,Z] rfl rfl (any_of HT_.out (by kernel_rfl)) (fun _ _ _ h=>h) (Or.inl ⟨by rfl,?_⟩) ?_ ?_;rotate_left;(intro w';go_simp;with_reducible rfl);rotate_left;((try simp only [Act.put,Y,E,U,i64_w,i32_w]);rfl)
        refine pure_ (i:=7) (N:=some 24) (v:=?_) (a':=?_) #[O,O,O,O,O,O,Z,O,Z,Z,Z,Z,Z,Z,Z,Z,Z,Z,Z,Z,Z] rfl rfl (any_of HT_.out (by kernel_rfl)) (fun _ _ _ h=>h) (Or.inl ⟨by rfl,?_⟩) ?_ ?_;rotate_left;(intro w';go_simp;with_reducible rfl);rotate_left;((try simp only [Act.put,Y,E,U,i64_w,i32_w]);rfl)
        refine pure_ (i:=8) (N:=some 25) (v:=?_) (a':=?_) #[O,O,O,O,O,O,Z,O,O,Z,Z,Z,Z,Z,Z,Z,Z,Z,Z,Z,Z] rfl rfl (any_of HT_.out (by kernel_rfl)) (fun _ _ _ h=>h) (Or.inl ⟨by rfl,?_⟩) ?_ ?_;rotate_left;(intro w';go_simp;with_reducible rfl);rotate_left;((try simp only [Act.put,Y,E,U,i64_w,i32_w]);rfl)
        refine pure_ (i:=11) (N:=some 28) (v:=?_) (a':=?_) #[O,O,O,O,O,O,Z,O,O,Z,Z,O,Z,Z,Z,Z,Z,Z,Z,Z,Z] rfl rfl (any_of HT_.out (by kernel_rfl)) (fun _ _ _ h=>h) (Or.inl ⟨by rfl,?_⟩) ?_ ?_;rotate_left;(intro w';go_simp;with_reducible rfl);rotate_left;((try simp only [Act.put,Y,E,U,i64_w,i32_w]);rfl)
        refine pure_ (i:=12) (N:=some 29) (v:=?_) (a':=?_) #[O,O,O,O,O,O,Z,O,O,Z,Z,O,O,Z,Z,Z,Z,Z,Z,Z,Z] rfl rfl (any_of HT_.out (by kernel_rfl)) (fun _ _ _ h=>h) (Or.inl ⟨by rfl,?_⟩) ?_ ?_;rotate_left;(intro w';go_simp;with_reducible rfl);rotate_left;((try simp only [Act.put,Y,E,U,i64_w,i32_w]);rfl)
        refine pure_ (i:=13) (N:=some 30) (v:=?_) (a':=?_) #[O,O,O,O,O,O,Z,O,O,Z,Z,O,O,O,Z,Z,Z,Z,Z,Z,Z] rfl rfl (any_of HT_.out (by kernel_rfl)) (fun _ _ _ h=>h) (Or.inl ⟨by rfl,?_⟩) ?_ ?_;rotate_left;(intro w';go_simp;with_reducible rfl);rotate_left;((try simp only [Act.put,Y,E,U,i64_w,i32_w]);rfl)
        refine pure_ (i:=14) (N:=some 31) (v:=?_) (a':=?_) #[O,O,O,O,O,O,Z,O,O,Z,Z,O,O,O,O,Z,Z,Z,Z,Z,Z] rfl rfl (any_of HT_.out (by kernel_rfl)) (fun _ _ _ h=>h) (Or.inl ⟨by rfl,?_⟩) ?_ ?_;rotate_left;(intro w';go_simp;with_reducible rfl);rotate_left;((try simp only [Act.put,Y,E,U,i64_w,i32_w]);rfl)
        refine pure_ (i:=16) (N:=some 33) (v:=?_) (a':=?_) #[O,O,O,O,O,O,Z,O,O,Z,Z,O,O,O,O,Z,O,Z,Z,Z,Z] rfl rfl (any_of HT_.out (by kernel_rfl)) (fun _ _ _ h=>h) (Or.inl ⟨by rfl,?_⟩) ?_ ?_;rotate_left;(intro w';go_simp;with_reducible rfl);rotate_left;((try simp only [Act.put,Y,E,U,i64_w,i32_w]);rfl)
        refine pure_ (i:=17) (N:=some 34) (v:=?_) (a':=?_) #[O,O,O,O,O,O,Z,O,O,Z,Z,O,O,O,O,Z,O,O,Z,Z,Z] rfl rfl (any_of HT_.out (by kernel_rfl)) (fun _ _ _ h=>h) (Or.inl ⟨by rfl,?_⟩) ?_ ?_;rotate_left;(intro w';go_simp;with_reducible rfl);rotate_left;((try simp only [Act.put,Y,E,U,i64_w,i32_w]);rfl)
        refine take_ (i:=6) (N:=some 23) (v:=?_) (a':=?_) #[O,O,O,O,O,O,O,O,O,Z,Z,O,O,O,O,Z,O,O,Z,Z,Z] rfl rfl (take_ofW HT_.out HW_.out (by kernel_rfl)) (fun _ _ _ h=>h) (Or.inl ⟨by rfl,?_⟩) hHeld ?_ ?_;rotate_left;(rintro w' ⟨s0,s1,s2,s3,s4,s5,s6,s7,s8,s9,s10,s11⟩;go_simp;with_reducible rfl);rotate_left;((try simp only [Act.put,Y,E,U,i64_w,i32_w]);rfl)
        refine take_ (i:=15) (N:=some 32) (v:=?_) (a':=?_) #[O,O,O,O,O,O,O,O,O,Z,Z,O,O,O,O,O,O,O,Z,Z,Z] rfl rfl (take_ofW HT_.out HW_.out (by kernel_rfl)) (fun _ _ _ h=>h) (Or.inl ⟨by rfl,?_⟩) hHeld ?_ ?_;rotate_left;(rintro w' ⟨s0,s1,s2,s3,s4,s5,s6,s7,s8,s9,s10,s11⟩;go_simp;with_reducible rfl);rotate_left;((try simp only [Act.put,Y,E,U,i64_w,i32_w]);rfl)
        refine one_ (i:=9) (N:=some 26) #[O,O,O,O,O,O,O,O,O,O,Z,O,O,O,O,O,O,O,Z,Z,Z] rfl rfl (one_of HT_.out (by kernel_rfl)) (by decide) (fun K hK=>?_)
        refine goes_ Try.func47 (by kernel_rfl) rfl #[.slice A244_4 ((rd_T46 l0 x6_1).f4).length c244_4,.int .i64 (wrap64 (a1 - 1))] (by rfl) rfl rfl (by (try simp only [List.map_toArray,List.map_cons,List.map_nil]);first | done | rfl | (simp only [List.length_drop,List.length_take];rfl)) ?_
        with_reducible refine (ih kj2 (by have:=HK1.out;have:=HJ2.out;omega) _ _ ((rd_T46 l0 x6_1).f4) (wrap64 (a1 - 1)) t245 _ ?side1 ?side2 A8.out).mono ?_
        (case side1=>repeat (first | exact (Kd.C_below HR244_4.out HB.out) | (with_reducible refine Kd.C_alloc ?_ _) | (with_reducible refine Kd.C_drewN ?_ _) | (with_reducible refine Kd.C_drew ?_)))
        (case side2=>exact HC244_4.out)
        rintro e w11 ⟨rfl,hb⟩
        refine ⟨_,rfl,?_⟩
        have n0_:=J (below_step (q0_ HB) hb)
        clear HB;have HB:=n0_;clear n0_
        refine hK.out _ _ ⟨((HB.out.cell (G w _ hw244_0)).trans hw244_0),((HB.out.cell (G w _ hw244_1)).trans hw244_1),((HB.out.cell (G w _ hw244_2)).trans hw244_2),((HB.out.cell (G w _ hw244_3)).trans hw244_3),((HB.out.cell (G w _ hw244_4)).trans hw244_4),((HB.out.cell (G w _ hw244_5)).trans hw244_5),((HB.out.cell (G w _ hw246_0)).trans hw246_0),((HB.out.cell (G w _ hw246_1)).trans hw246_1),((HB.out.cell (G w _ hw246_2)).trans hw246_2),((HB.out.cell (G w _ hw246_3)).trans hw246_3),((HB.out.cell (G w _ hw246_4)).trans hw246_4),((HB.out.cell (G w _ hw246_5)).trans hw246_5)⟩ (fun hHeld=>?_)
        clear hK K
        refine norm_ (a':=?_) ?_ ?_
        rotate_left
        ·show Act.put _ (some 26) _ = _
         simp only [Act.put,Y,E,U,i64_w,i32_w]
         rfl
        refine pure_ (i:=10) (N:=some 27) (v:=?_) (a':=?_) #[O,O,O,O,O,O,O,O,O,O,O,O,O,O,O,O,O,O,Z,Z,Z] rfl rfl (any_of HT_.out (by kernel_rfl)) (fun _ _ _ h=>h) (Or.inl ⟨by rfl,?_⟩) ?_ ?_;rotate_left;(intro w';go_simp;with_reducible rfl);rotate_left;((try simp only [Act.put,Y,E,U,i64_w,i32_w]);rfl)
        refine one_ (i:=18) (N:=some 35) #[O,O,O,O,O,O,O,O,O,O,O,O,O,O,O,O,O,O,O,Z,Z] rfl rfl (one_of HT_.out (by kernel_rfl)) (by decide) (fun K hK=>?_)
        refine goes_ Try.func47 (by kernel_rfl) rfl #[.slice A244_5 ((rd_T46 l0 x6_1).f5).length c244_5,.int .i64 (wrap64 (a1 - 1))] (by rfl) rfl rfl (by (try simp only [List.map_toArray,List.map_cons,List.map_nil]);first | done | rfl | (simp only [List.length_drop,List.length_take];rfl)) ?_
        with_reducible refine (ih kj2 (by have:=HK1.out;have:=HJ2.out;omega) _ _ ((rd_T46 l0 x6_1).f5) (wrap64 (a1 - 1)) t247 _ ?side1 ?side2 A9.out).mono ?_
        (case side1=>repeat (first | exact (Kd.C_below HR246_5.out HB.out) | (with_reducible refine Kd.C_alloc ?_ _) | (with_reducible refine Kd.C_drewN ?_ _) | (with_reducible refine Kd.C_drew ?_)))
        (case side2=>exact HC246_5.out)
        rintro e w12 ⟨rfl,hb⟩
        refine ⟨_,rfl,?_⟩
        have n0_:=J (below_step (q0_ HB) hb)
        clear HB;have HB:=n0_;clear n0_
        refine hK.out _ _ ⟨((HB.out.cell (G w _ hw244_0)).trans hw244_0),((HB.out.cell (G w _ hw244_1)).trans hw244_1),((HB.out.cell (G w _ hw244_2)).trans hw244_2),((HB.out.cell (G w _ hw244_3)).trans hw244_3),((HB.out.cell (G w _ hw244_4)).trans hw244_4),((HB.out.cell (G w _ hw244_5)).trans hw244_5),((HB.out.cell (G w _ hw246_0)).trans hw246_0),((HB.out.cell (G w _ hw246_1)).trans hw246_1),((HB.out.cell (G w _ hw246_2)).trans hw246_2),((HB.out.cell (G w _ hw246_3)).trans hw246_3),((HB.out.cell (G w _ hw246_4)).trans hw246_4),((HB.out.cell (G w _ hw246_5)).trans hw246_5)⟩ (fun hHeld=>?_)
        clear hK K
        refine norm_ (a':=?_) ?_ ?_
        rotate_left
        ·show Act.put _ (some 35) _ = _
         simp only [Act.put,Y,E,U,i64_w,i32_w]
         rfl
        refine pure_ (i:=19) (N:=some 36) (v:=?_) (a':=?_) #[O,O,O,O,O,O,O,O,O,O,O,O,O,O,O,O,O,O,O,O,Z] rfl rfl (any_of HT_.out (by kernel_rfl)) (fun _ _ _ h=>h) (Or.inl ⟨by rfl,?_⟩) ?_ ?_;rotate_left;(intro w';go_simp;with_reducible rfl);rotate_left;((try simp only [Act.put,Y,E,U,i64_w,i32_w]);rfl)
        refine pure_ (i:=20) (N:=some 5) (v:=?_) (a':=?_) #[O,O,O,O,O,O,O,O,O,O,O,O,O,O,O,O,O,O,O,O,O] rfl rfl (any_of HT_.out (by kernel_rfl)) (fun _ _ _ h=>h) (Or.inl ⟨by rfl,?_⟩) ?_ ?_;rotate_left;(intro w';go_simp;with_reducible rfl);rotate_left;((try simp only [Act.put,Y,E,U,i64_w,i32_w]);rfl)
        refine done_ (done_of HT_.out (by kernel_rfl)) ?_
        try go_wp2
        go_roundg kj2
        case measure=>have:=HK1.out;have:=HJ2.out;omega
        case rel=>exact ⟨(wrap64 ((wrap64 ((wrap64 (x5_1 + 1)) + t245)) + t247)),(wrap64 (x6_1 + 1)),(by first | rfl | (simp;done) | (simp [*];done)),(by first | rfl | (simp;done) | (simp [*];done)),H',⟨by have:=HK1.out;have:=HJ2.out;omega⟩,⟨by repeat (first | (with_reducible first | exact HB.out | apply below_alloc | apply pw_below_drewN | apply below_drew1) | exact HB.out)⟩⟩
       ·rw [if_neg c7] at H
        exact absurd H (by simp)
      ·rw [if_neg c6] at H
       exact absurd H (by simp)
     ·replace c5:=Bool.eq_false_iff.mpr c5;subst c5
      have H1 : (some x5_1) = some r:=by rw [if_neg (show ¬ (false = true) by decide)] at H;exact H
      clear H;have H:=H1;clear H1;obtain rfl:=Option.some.inj H
      go_wp2
      go_ret
      exact ⟨by first | rfl | (simp [errW_none,errW_some] <;> rfl) | (simp [*,errW_none,errW_some] <;> rfl),by repeat (first | (with_reducible first | exact HB.out | apply below_alloc | apply pw_below_drewN | apply below_drew1) | exact HB.out)⟩
def spec_StmtsOk.f (k : Nat) (l0 : List (S46)) : Option (Bool):=(spec_l2List.f k l0 3 (-1)).bind fun t248=>(if t248 = true then ((spec_l2Many.f k l0 3).bind fun t249=>(some (decide (t249 ≤ 14)))) else (some false))
set_option maxHeartbeats 8000000 in
set_option maxRecDepth 100000 in
theorem spec_StmtsOk.calls (k : Nat) (A0 : Option Addr) (c0 : Nat) (l0 : List (S46)) (r : Bool) (w : World) (hr0 : Kd.C k46 w A0 l0.length l0) (hc0 : l0.length ≤ c0) (h : spec_StmtsOk.f k l0 = some r) :
  Calls Try.prog 27 #[.slice A0 l0.length c0] w fun e w'=>e = .returned (.bool r) ∧ Below w.heap.size w w':=by
 have HR0:=J hr0;have HC0:=J hc0;clear hr0 hc0;have HB:=J (Below.refl w.heap.size w);have H : ((spec_l2List.f k l0 3 (-1)).bind fun t248=>(if t248 = true then ((spec_l2Many.f k l0 3).bind fun t249=>(some (decide (t249 ≤ 14)))) else (some false))) = some r:=h;clear h;replace H:=Option.bind_eq_some_iff.mp H;obtain ⟨t248,A20,H⟩:=H;replace H : (if t248 = true then ((spec_l2Many.f k l0 3).bind fun t249=>(some (decide (t249 ≤ 14)))) else (some false)) = some r:=H;have A2:=J A20;clear A20
 by_cases c3 : t248 = true
 ·subst c3
  have H1 : ((spec_l2Many.f k l0 3).bind fun t249=>(some (decide (t249 ≤ 14)))) = some r:=by rw [if_pos rfl] at H;exact H
  clear H;have H:=H1;clear H1;replace H:=Option.bind_eq_some_iff.mp H;obtain ⟨t249,A40,H⟩:=H;replace H : (some (decide (t249 ≤ 14))) = some r:=H;have A4:=J A40;clear A40;obtain rfl:=Option.some.inj H;go_enter Try.func27,Try.ntmps27
  go_wp2_with (first | ((with_reducible refine gate_callee (f:=46) rfl ?_);refine goesM_ (some 4) Try.func46 #[.slice A0 l0.length c0,.int .i64 3,.int .i64 (-1)] ?_;(with_reducible refine (spec_l2List.calls k _ _ l0 3 (-1) true _ ?side1 ?side2 A2.out).mono ?_);(case side1=>repeat (first | exact HR0.out | (with_reducible refine Kd.C_alloc ?_ _) | (with_reducible refine Kd.C_drewN ?_ _) | (with_reducible refine Kd.C_drew ?_)));(case side2=>exact HC0.out);rintro e w5 ⟨rfl,hb⟩;refine ⟨_,rfl,?_⟩;have n0_:=J (below_step (q0_ HB) hb);clear HB;have HB:=n0_;clear n0_;(try clear hb)) | (go_at_call 47;(with_reducible refine (spec_l2Many.calls k _ _ l0 3 t249 _ ?side1 ?side2 A4.out).mono ?_);(case side1=>repeat (first | exact (Kd.C_below HR0.out HB.out) | (with_reducible refine Kd.C_alloc ?_ _) | (with_reducible refine Kd.C_drewN ?_ _) | (with_reducible refine Kd.C_drew ?_)));(case side2=>exact HC0.out);rintro e w6 ⟨rfl,hb⟩;have n0_:=J (below_step (q0_ HB) hb);clear HB;have HB:=n0_;clear n0_;(try clear hb)))
  go_ret
  exact ⟨by first | rfl | (simp [errW_none,errW_some] <;> rfl) | (simp [*,errW_none,errW_some] <;> rfl),by repeat (first | (with_reducible first | exact HB.out | apply below_alloc | apply pw_below_drewN | apply below_drew1) | exact HB.out)⟩
 ·replace c3:=Bool.eq_false_iff.mpr c3;subst c3
  have H1 : (some false) = some r:=by rw [if_neg (show ¬ (false = true) by decide)] at H;exact H
  clear H;have H:=H1;clear H1;obtain rfl:=Option.some.inj H;go_enter Try.func27,Try.ntmps27
  go_wp2_with (first | ((with_reducible refine gate_callee (f:=46) rfl ?_);refine goesM_ (some 4) Try.func46 #[.slice A0 l0.length c0,.int .i64 3,.int .i64 (-1)] ?_;(with_reducible refine (spec_l2List.calls k _ _ l0 3 (-1) false _ ?side1 ?side2 A2.out).mono ?_);(case side1=>repeat (first | exact HR0.out | (with_reducible refine Kd.C_alloc ?_ _) | (with_reducible refine Kd.C_drewN ?_ _) | (with_reducible refine Kd.C_drew ?_)));(case side2=>exact HC0.out);rintro e w7 ⟨rfl,hb⟩;refine ⟨_,rfl,?_⟩;have n0_:=J (below_step (q0_ HB) hb);clear HB;have HB:=n0_;clear n0_;(try clear hb)))
  go_ret
  exact ⟨by first | rfl | (simp [errW_none,errW_some] <;> rfl) | (simp [*,errW_none,errW_some] <;> rfl),by repeat (first | (with_reducible first | exact HB.out | apply below_alloc | apply pw_below_drewN | apply below_drew1) | exact HB.out)⟩
end Go.Proofs.Ytphbdoljkpdflaa.P
