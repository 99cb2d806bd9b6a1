/- Parts of the proof of FnMeanSame: plain Lean functions of Go functions, and that the calls come to what they say; no condition beyond those that each theorem names. -/
import Derived.Test.YtfbocgagfodgnaaZFnMeanSame4
namespace Go.Proofs.Ytfbocgagfodgnaa.P
open Go.RowKit Go.Proofs.YtfbocgagfodgnaaW.PrintWords Go.Proofs.YtfbocgagfodgnaaW.PrintLast Go.Proofs.YtfbocgagfodgnaaW.PrintMore
open Go.Proofs.YtfbocgagfodgnaaW.PrintWords renaming Aside0.mk → O
open Go.RowKit renaming wrap64 → J
attribute [local go_sem] max2_int min2_int max_two min_two max_three min_three max_four min_four
set_option linter.unusedVariables false
set_option linter.unusedSimpArgs false
def IsS53 (w0 W : World) (g : Nat) (f0 : List Int) (f1 : Int) : Prop:=∃ A0 c0,W.heap[g]? = some (.cells #[.slice A0 f0.length c0,.int .i64 f1] 53 (0,0)) ∧ w0.heap.size ≤ g ∧ Kd.C (Kd.int .u8) w0 A0 f0.length f0
theorem IsS53.grown {w0 W : World} {g : Nat} {f0 : List Int} {f1 : Int} {W1 : World} {row : Option Nat} (h : IsS53 w0 W g f0 f1) (hw : W.grownBy W1 row) (hne : some g ≠ row) : IsS53 w0 W1 g f0 f1:=by
 obtain ⟨A0,c0,hb,hg,hr0⟩:=h
 exact ⟨A0,c0,blk_grown hb hw hne,hg,hr0⟩
theorem IsS53.own_neN {w0 W : World} {g : Nat} {f0 : List Int} {f1 : Int} {α : Type} {d : Kd α} {e : Nat} {base : Nat} {ok : Nat → Prop} {v : Value} {xs : List α} (h : IsS53 w0 W g f0 f1) (ho : Kd.N d e W base ok v xs) (ht : e ≠ 53) : some g ≠ v.ownBlock:=by
 obtain ⟨A0,c0,hb,hg,hr0⟩:=h
 exact Kd.N_ne ho hb ht
theorem IsS53.fresh {w0 W : World} {g : Nat} {f0 : List Int} {f1 : Int} (h : IsS53 w0 W g f0 f1) : ∀ k,W.heap.size ≤ k → k ≠ g:=by
 obtain ⟨A0,c0,hb,hg,hr0⟩:=h
 exact Kd.freshB hb
theorem IsS53.kept {w0 W : World} {g : Nat} {f0 : List Int} {f1 : Int} {W1 : World} {S : Nat → Prop} (h : IsS53 w0 W g f0 f1) (hk : Kept W W1 S) (hne : ¬ S g) : IsS53 w0 W1 g f0 f1:=by
 obtain ⟨A0,c0,hb,hg,hr0⟩:=h
 exact ⟨A0,c0,blk_kept hb hk hne,hg,hr0⟩
theorem IsS53.below {w0 W : World} {g : Nat} {f0 : List Int} {f1 : Int} {W1 : World} (h : IsS53 w0 W g f0 f1) (hw : Below W.heap.size W W1) : IsS53 w0 W1 g f0 f1:=h.grown (grown_of_below hw none) (by simp)
theorem IsS53.alloc {w0 W : World} {g : Nat} {f0 : List Int} {f1 : Int} (h : IsS53 w0 W g f0 f1) (o : Obj) : IsS53 w0 (W.alloc o) g f0 f1:=h.below (below_alloc (Below.refl _ _) o)
theorem IsS53.drewN {w0 W : World} {g : Nat} {f0 : List Int} {f1 : Int} (h : IsS53 w0 W g f0 f1) (m : Nat) : IsS53 w0 (W.drewN m) g f0 f1:=h
theorem IsS53.drew {w0 W : World} {g : Nat} {f0 : List Int} {f1 : Int} (h : IsS53 w0 W g f0 f1) : IsS53 w0 W.drew g f0 f1:=h
theorem IsS53.at_ {w0 W : World} {g : Nat} {f0 : List Int} {f1 : Int} {w' : World} {m : Nat} (hq : W.drewN m = w') (h : IsS53 w0 W g f0 f1) : IsS53 w0 w' g f0 f1:=by subst hq;exact IsS53.drewN h m
theorem IsS53.apart {w0 W : World} {g : Nat} {f0 : List Int} {f1 : Int} {α : Type} {d : Kd α} {e : Nat} {base : Nat} {ok : Nat → Prop} {v : Value} {xs : List α} (h : IsS53 w0 W g f0 f1) (ho : d.R e W base ok v xs) (ht : ∀ q,q ∈ e :: d.E → q ≠ 53) : d.R e W base (fun k=>ok k ∧ k ≠ g) v xs:=by
 obtain ⟨A0,c0,hb,hg,hr0⟩:=h
 exact Kd.R_types ho hb ht
theorem IsS53.own_ne {w0 W : World} {g : Nat} {f0 : List Int} {f1 : Int} {α : Type} {d : Kd α} {e : Nat} {base : Nat} {ok : Nat → Prop} {v : Value} {xs : List α} (h : IsS53 w0 W g f0 f1) (ho : d.R e W base ok v xs) (ht : e ≠ 53) : some g ≠ v.ownBlock:=by
 obtain ⟨A0,c0,hb,hg,hr0⟩:=h
 exact Kd.R_ne ho hb ht
theorem IsS53.lt {w0 W : World} {g : Nat} {f0 : List Int} {f1 : Int} (h : IsS53 w0 W g f0 f1) : g < W.heap.size:=by
 obtain ⟨A0,c0,hb,hg,hr0⟩:=h
 exact blk_lt hb
theorem IsS53.ge {w0 W : World} {g : Nat} {f0 : List Int} {f1 : Int} (h : IsS53 w0 W g f0 f1) : w0.heap.size ≤ g:=by
 obtain ⟨A0,c0,hb,hg,hr0⟩:=h
 exact hg
theorem IsS53.ne_blk {w0 W : World} {g : Nat} {f0 : List Int} {f1 : Int} {a : Nat} {cs : Array Value} {t : TypeId} {fr : Nat × Nat} (h : IsS53 w0 W g f0 f1) (hb2 : W.heap[a]? = some (.cells cs t fr)) (ht : t ≠ 53) : g ≠ a:=by
 obtain ⟨A0,c0,hb,hg,hr0⟩:=h
 rintro rfl
 rw [hb] at hb2
 injection hb2 with hb2
 injection hb2 with _ ht2
 exact ht ht2.symm
theorem IsS53.far {w0 W : World} {g : Nat} {f0 : List Int} {f1 : Int} {p : Addr} (h : IsS53 w0 W g f0 f1) (hne : g ≠ p.block) (u : Value) : IsS53 w0 (W.setCell p u) g f0 f1:=by
 obtain ⟨A0,c0,hb,hg,hr0⟩:=h
 exact ⟨A0,c0,blk_far hb hne u,hg,hr0⟩
theorem cellS53_0 {W : World} {g : Nat} {A0 : Option Addr} {c0 : Nat} {f0 : List Int} {f1 : Int} (h : W.heap[g]? = some (.cells #[.slice A0 f0.length c0,.int .i64 f1] 53 (0,0))) : W.cell? ⟨g,0,none⟩ = some (.slice A0 f0.length c0):=(blk_cell h 0).trans rfl
theorem cellS53_1 {W : World} {g : Nat} {A0 : Option Addr} {c0 : Nat} {f0 : List Int} {f1 : Int} (h : W.heap[g]? = some (.cells #[.slice A0 f0.length c0,.int .i64 f1] 53 (0,0))) : W.cell? ⟨g,1,none⟩ = some (.int .i64 f1):=(blk_cell h 1).trans rfl
theorem IsS53.set_1 {w0 W : World} {g : Nat} {f0 : List Int} {f1 : Int} (h : IsS53 w0 W g f0 f1) (x : Int) : IsS53 w0 (W.setCell ⟨g,1,none⟩ (.int .i64 x)) g f0 x:=by
 obtain ⟨A0,c0,hb,hg,hr0⟩:=h
 exact ⟨A0,c0,by simpa using blk_set hb 1 (.int .i64 x),hg,hr0⟩
def spec_l11Open.f (l0 : List Int) : Option (List Int × Int):=if (l0.length : Int) > 2000 then (if 2000 ≤ (l0.length : Int) then (some (l0.take 2000,0)) else (none)) else (some (l0,0))
private theorem y51_ {Z : Prop} (h : Z:=by first | (with_reducible assumption) | assumption) : Z:=h
private theorem y52_ {A B Z : Prop} (a0 : Aside0 A) (a1 : Aside0 B) (h : A → B → Z:=by intro h0_ h1_;repeat (first | (with_reducible first | exact h0_ | apply below_alloc | apply pw_below_drewN | apply below_drew1 | refine below_set ?_ h1_) | exact h0_)) : Z:=h a0.out a1.out
private theorem y53_ {A Z : Prop} (a0 : Aside0 A) (h : A → Z:=by intro h0_;repeat (first | (with_reducible first | exact h0_ | apply IsS53.alloc | apply IsS53.drewN | apply IsS53.drew | apply IsS53.set_1) | exact h0_)) : Z:=h a0.out
private theorem y54_ {A Z : Prop} (a0 : Aside0 A) (h : A → Z:=by intro h0_;repeat (first | (with_reducible first | exact h0_ | apply KeepBut.set_ | apply keep_drewN | apply keep_drew | apply keep_alloc) | exact h0_)) : Z:=h a0.out
private theorem y55_ {A B Z : Prop} (a0 : Aside0 A) (a1 : Aside0 B) (h : A → B → Z:=by intro h0_ h1_;repeat (first | (with_reducible first | exact h0_ | apply below_alloc | apply pw_below_drewN | apply below_drew1 | refine below_set ?_ (IsS53.ge h1_)) | exact h0_)) : Z:=h a0.out a1.out
set_option maxHeartbeats 8000000 in
set_option maxRecDepth 100000 in
theorem spec_l11Open.calls (A0 : Option Addr) (c0 : Nat) (l0 : List Int) (r1 : List Int) (r2 : Int) (w0 w : World) (hB : Below w0.heap.size w0 w) (hr0 : Kd.C (Kd.int .u8) w0 A0 l0.length l0) (hc0 : l0.length ≤ c0) (h : spec_l11Open.f l0 = some (r1,r2)) :
  Calls Try.prog 12 #[.slice A0 l0.length c0] w fun e w'=>∃ g_ : Nat,e = .returned (.pointer (some ⟨g_,0,none⟩)) ∧ IsS53 w0 w' g_ r1 r2 ∧ Below w0.heap.size w0 w' ∧ Below w.heap.size w w':=by
 have hu53:=Try.underlying53;have HR0:=O hr0;have HC0:=O hc0;clear hr0 hc0;have HBW:=O (Below.refl w.heap.size w);have HW0:=O hB.size;have HB:=O hB;clear hB;have H : (if (l0.length : Int) > 2000 then (if 2000 ≤ (l0.length : Int) then (some (l0.take 2000,0)) else (none)) else (some (l0,0))) = some (r1,r2):=h;clear h
 by_cases c2 : (l0.length : Int) > 2000
 ·rw [if_pos c2] at H;have c2b0 : decide (2000 < (l0.length : Int)) = true:=decide_eq_true c2
  have c2b1 : decide (2000 < l0.length) = true:=decide_eq_true (by omega)
  clear c2
  by_cases c3 : 2000 ≤ (l0.length : Int)
  ·rw [if_pos c3] at H;have c3b0:=eq_true c3;have c3b1 : decide (2000 ≤ (l0.length : Int)) = true:=decide_eq_true c3;clear c3;simp only [Option.some.injEq,Prod.mk.injEq] at H;obtain ⟨rfl,rfl⟩:=H;obtain ⟨i04,hi04,_,hsz4,_⟩:=info_parts info5
   obtain ⟨hcut4,hA4,hC4⟩:=print_take_of (P:=Try.prog) (Value.int .u8) 0 22 5 .i64 Try.underlying22 hi04 hsz4 A0 c0 l0 2000 (by omega) (of_decide_eq_true (y51_)) HC0.out
   have HR101:=O (Kd.C_of_reads (h1:=fun _=>rfl) (hA4 _ (Kd.reads_of_C HR0.out)));have HC101:=O hC4;clear hA4 hC4 hi04 hsz4;go_enter Try.func12,Try.ntmps12
   go_wp2_with (first | ((with_reducible refine gate_dst (N:=10) rfl ?_);refine box_event ?hg (N:=10) ?hd (cs:=#[.slice A0 (l0.take 2000).length c0,.int .i64 0]) (t:=53) ?hr ?_;(case hd=>rfl);(case hg=>rfl);(case hr=>first | (go_simp;done) | (go_simp;rfl));intro gb102 hg w5 hbox hb;have n0_:=ap5 (below_step HBW.out hb) (below_step (q0_ HB) hb) (hbox) ((by rw [hg];exact (below_size (q0_ HBW)) : w.heap.size ≤ gb102)) ((Nat.le_trans HW0.out (by rw [hg];exact (below_size (q0_ HBW)) : w.heap.size ≤ gb102) : w0.heap.size ≤ gb102));clear HBW HB;obtain ⟨HBW,HB,BK102,GW102,GE102⟩:=n0_;clear hb hbox hg))
   go_ret
   exact ⟨_,rfl,(show IsS53 w0 _ gb102 (l0.take 2000) 0 from ⟨_,_,by (with_reducible repeat (first | refine blk_drewN ?_ _ | refine blk_drew ?_ | refine blk_alloc ?_ _));exact BK102.out,GE102.out,HR101.out⟩),y52_ HB GE102,y52_ HBW GW102⟩
  ·rw [if_neg c3] at H
   exact absurd H (by simp)
 ·rw [if_neg c2] at H;have c2b0 : decide (2000 < (l0.length : Int)) = false:=decide_eq_false c2
  have c2b1 : decide (2000 < l0.length) = false:=decide_eq_false (by omega)
  clear c2;simp only [Option.some.injEq,Prod.mk.injEq] at H;obtain ⟨rfl,rfl⟩:=H;go_enter Try.func12,Try.ntmps12
  go_wp2_with (first | ((with_reducible refine gate_dst (N:=10) rfl ?_);refine box_event ?hg (N:=10) ?hd (cs:=#[.slice A0 l0.length c0,.int .i64 0]) (t:=53) ?hr ?_;(case hd=>rfl);(case hg=>rfl);(case hr=>first | (go_simp;done) | (go_simp;rfl));intro gb103 hg w6 hbox hb;have n0_:=ap5 (below_step HBW.out hb) (below_step (q0_ HB) hb) (hbox) ((by rw [hg];exact (below_size (q0_ HBW)) : w.heap.size ≤ gb103)) ((Nat.le_trans HW0.out (by rw [hg];exact (below_size (q0_ HBW)) : w.heap.size ≤ gb103) : w0.heap.size ≤ gb103));clear HBW HB;obtain ⟨HBW,HB,BK103,GW103,GE103⟩:=n0_;clear hb hbox hg))
  go_ret
  exact ⟨_,rfl,(show IsS53 w0 _ gb103 l0 0 from ⟨_,_,by (with_reducible repeat (first | refine blk_drewN ?_ _ | refine blk_drew ?_ | refine blk_alloc ?_ _));exact BK103.out,GE103.out,HR0.out⟩),y52_ HB GE103,y52_ HBW GW103⟩
def spec_l11Rd_pick.j0 : Nat → Int → Bool → List Int → Int → Option (Int × Int)
 | 0,_,_,_,_=>none
 | k + 1,x1,x24,x1000,x1001=>if x24 = true then (some (0,x1001)) else (if (J (x1001 - 1)) < (x1000.length : Int) then (if 0 ≤ (J (x1001 - 1)) then (if x1 = 0 then (none) else (some (Int.tmod (J (rd x1000 (J (x1001 - 1)))) x1,x1001))) else (none)) else (if (x1000.length : Int) = 0 then (none) else (if 0 ≤ (Int.tmod (J (x1001 - 1)) (x1000.length : Int)) then (if (Int.tmod (J (x1001 - 1)) (x1000.length : Int)) < (x1000.length : Int) then (if 0 ≤ (Int.tmod (J ((J ((J (x1001 - 1)) * 7)) + 3)) (x1000.length : Int)) then (if (Int.tmod (J ((J ((J (x1001 - 1)) * 7)) + 3)) (x1000.length : Int)) < (x1000.length : Int) then (if x1 = 0 then (none) else (some (Int.tmod (Go.bits .xor .i64 (J ((J ((J ((J ((J (rd x1000 (Int.tmod (J (x1001 - 1)) (x1000.length : Int)))) * 131)) + (J ((J (rd x1000 (Int.tmod (J ((J ((J (x1001 - 1)) * 7)) + 3)) (x1000.length : Int)))) * 1117)))) + (J ((J (x1001 - 1)) * 29)))) + (J ((J (Int.tdiv (J (x1001 - 1)) (x1000.length : Int))) * 53)))) (J (Int.tdiv (J ((J ((J ((J ((J (rd x1000 (Int.tmod (J (x1001 - 1)) (x1000.length : Int)))) * 131)) + (J ((J (rd x1000 (Int.tmod (J ((J ((J (x1001 - 1)) * 7)) + 3)) (x1000.length : Int)))) * 1117)))) + (J ((J (x1001 - 1)) * 29)))) + (J ((J (Int.tdiv (J (x1001 - 1)) (x1000.length : Int))) * 53)))) 64))) x1,x1001))) else (none)) else (none)) else (none)) else (none))))
def spec_l11Rd_pick.f (k : Nat) (s0_0 : List Int) (s0_1 : Int) (a1 : Int) : Option (Int × Int):=if a1 < 1 then (spec_l11Rd_pick.j0 k a1 true s0_0 (J (s0_1 + 1))) else (spec_l11Rd_pick.j0 k a1 ((s0_0.length : Int) == 0) s0_0 (J (s0_1 + 1)))
set_option maxHeartbeats 8000000 in
set_option maxRecDepth 100000 in
theorem spec_l11Rd_pick.calls (k : Nat) (g : Nat) (s0_0 : List Int) (s0_1 : Int) (a1 : Int) (r1 : Int) (r2 : Int) (w0 w : World) (hI : IsS53 w0 w g s0_0 s0_1) (hB : Below w0.heap.size w0 w) (h : spec_l11Rd_pick.f k s0_0 s0_1 a1 = some (r1,r2)) :
  Calls Try.prog 16 #[.pointer (some ⟨g,0,none⟩),.int .i64 a1] w fun e w'=>e = .returned (.int .i64 r1) ∧ IsS53 w0 w' g s0_0 r2 ∧ Below w0.heap.size w0 w' ∧ KeepBut w w' g none:=by
 have HI0:=O hI;have HK:=O (KeepBut.refl w g none);have HL:=O hB.size;clear hI;have HW0:=O hB.size;have HB:=O hB;clear hB;have H : (if a1 < 1 then (spec_l11Rd_pick.j0 k a1 true s0_0 (J (s0_1 + 1))) else (spec_l11Rd_pick.j0 k a1 ((s0_0.length : Int) == 0) s0_0 (J (s0_1 + 1)))) = some (r1,r2):=h;clear h;have HC3:=O H;clear H;obtain ⟨ASz4_0,cSz4_0,HGz4,hgz4,HSz4_0⟩:=HI0.out;have hcz4_0:=cellS53_0 HGz4;have hcz4_1:=cellS53_1 HGz4;have hfz4_1:=blk_frozen HGz4 1;clear HGz4 hgz4;go_enter Try.func16,Try.ntmps16
 go_upto_region 2 with (fail)
 repeat (go_quiet (fail);go_upto_region 2 with (fail))
 go_cut [24] (fun v24 wc=>∃ (kq : Nat) (x24_2 : Bool),v24 = .bool x24_2 ∧ Aside0 (spec_l11Rd_pick.j0 kq a1 x24_2 s0_0 (J (s0_1 + 1)) = some (r1,r2)) ∧ Aside0 (kq ≤ k) ∧ Aside0 (IsS53 w0 wc g s0_0 (J (s0_1 + 1))) ∧ Aside0 (KeepBut w wc g none) ∧ Aside0 (Below w0.heap.size w0 wc))
 case first =>
  have H:=HC3.out;clear HC3
  by_cases c5 : a1 < 1
  ·rw [if_pos c5] at H;have c5b0 : decide (a1 < 1) = true:=decide_eq_true c5;clear c5
   (first | rw [c5b0] | (simp only [i64_w,i32_w];rw [c5b0]) | skip)
   have H':=O H;clear H
   go_wp2
   repeat (go_quiet (fail);try go_wp2)
   go_meet
   case rel=>exact ⟨_,(true),(by first | rfl | (simp;done) | (simp [*];done)),H',⟨by first | omega | exact Nat.le_refl _⟩,⟨y53_ HI0⟩,⟨y54_ HK⟩,⟨y55_ HB HI0⟩⟩
  ·rw [if_neg c5] at H;have c5b0 : decide (a1 < 1) = false:=decide_eq_false c5;clear c5
   (first | rw [c5b0] | (simp only [i64_w,i32_w];rw [c5b0]) | skip)
   have H':=O H;clear H;obtain ⟨ASz6_0,cSz6_0,HGz6,hgz6,HSz6_0⟩:=HI0.out;have hcz6_0:=cellS53_0 HGz6;have hcz6_1:=cellS53_1 HGz6;have hfz6_1:=blk_frozen HGz6 1;clear HGz6 hgz6
   go_wp2
   repeat (go_quiet (fail);try go_wp2)
   go_meet
   case rel=>exact ⟨_,(((s0_0.length : Int) == 0)),(by first | rfl | (simp;done) | (simp [*];done)),H',⟨by first | omega | exact Nat.le_refl _⟩,⟨y53_ HI0⟩,⟨y54_ HK⟩,⟨y55_ HB HI0⟩⟩
 case rest =>
  clear HC3;(try clear hcz4_0);(try clear hcz4_1);(try clear hfz4_1);obtain ⟨kq,x24_2,rfl,HA,HJ2,HI0,HK,HB⟩:=hcut
  cases kq with
  | zero=>exact absurd HA.out (by simp [spec_l11Rd_pick.j0])
  | succ kj2 =>
   have H:=HA.out;clear HA;simp only [spec_l11Rd_pick.j0] at H
   by_cases c7 : x24_2 = true
   ·subst c7
    rw [if_pos rfl] at H;simp only [Option.some.injEq,Prod.mk.injEq] at H;obtain ⟨rfl,rfl⟩:=H
    go_wp2
    repeat (go_quiet (fail);try go_wp2)
    go_ret
    exact ⟨by first | rfl | (simp [errW_none,errW_some] <;> rfl) | (simp [*,errW_none,errW_some] <;> rfl),y53_ HI0,y55_ HB HI0,y54_ HK⟩
   ·replace c7:=Bool.eq_false_iff.mpr c7;subst c7
    rw [if_neg (show ¬ (false = true) by decide)] at H
    by_cases c8 : (J ((J (s0_1 + 1)) - 1)) < (s0_0.length : Int)
    ·rw [if_pos c8] at H;have c8b0 : decide ((J ((J (s0_1 + 1)) - 1)) < (s0_0.length : Int)) = true:=decide_eq_true c8;clear c8;obtain ⟨ji9,hji9⟩ : ∃ j_ : Int,(J ((J (s0_1 + 1)) - 1)) = j_:=⟨_,rfl⟩
     replace H : (if 0 ≤ (ji9) then (if a1 = 0 then (none) else (some (Int.tmod (J (rd s0_0 (ji9))) a1,(J (s0_1 + 1))))) else (none)) = some (r1,r2):=by first | (rw [hji9] at H;exact H) | (simp only [hji9] at H ⊢;exact H)
     (try rw [hji9] at c8b0)
     have hji9w : (IntKind.i64.wrap ((J (s0_1 + 1)) - 1)) = ji9:=(i64_w _).trans hji9
     by_cases c10 : 0 ≤ (ji9)
     ·rw [if_pos c10] at H;have c10b0 : decide (0 ≤ (ji9)) = true:=decide_eq_true c10;clear c10
      by_cases c11 : a1 = 0
      ·rw [if_pos c11] at H
       exact absurd H (by simp)
      ·rw [if_neg c11] at H;obtain ⟨c11b0,c11b1⟩:=eqF c11;simp only [Option.some.injEq,Prod.mk.injEq] at H;obtain ⟨rfl,rfl⟩:=H;obtain ⟨ASz12_0,cSz12_0,HGz12,hgz12,HSz12_0⟩:=HI0.out;have hcz12_0:=cellS53_0 HGz12;have hcz12_1:=cellS53_1 HGz12;have hfz12_1:=blk_frozen HGz12 1;clear HGz12 hgz12
       have p104 : 0 ≤ ((ji9) : Int):=of_decide_eq_true (y51_)
       have q104 : (ji9) < (s0_0.length : Int):=of_decide_eq_true (y51_)
       obtain ⟨ad104,e104,hx104_0⟩:=Kd.at_int HSz12_0 (ji9) p104 q104
       cases e104
       replace hx104_0:=pw_cell_below HB.out hx104_0;replace p104:=eq_true p104;replace q104:=eq_true q104
       go_wp2
       repeat (go_quiet (fail);try go_wp2)
       go_ret
       exact ⟨by first | rfl | (simp [errW_none,errW_some] <;> rfl) | (simp only [← hji9];first | rfl | (simp [errW_none,errW_some] <;> rfl)) | (simp [*,errW_none,errW_some] <;> rfl),y53_ HI0,y55_ HB HI0,y54_ HK⟩
     ·rw [if_neg c10] at H
      exact absurd H (by simp)
    ·rw [if_neg c8] at H;have c8b0 : decide ((J ((J (s0_1 + 1)) - 1)) < (s0_0.length : Int)) = false:=decide_eq_false c8;clear c8
     by_cases c13 : (s0_0.length : Int) = 0
     ·rw [if_pos c13] at H
      exact absurd H (by simp)
     ·rw [if_neg c13] at H;obtain ⟨c13b0,c13b1⟩:=eqF c13
      have c13b2 : ¬ (s0_0 = []):=fun h_=>c13 (by rw [h_];rfl)
      obtain ⟨ji14,hji14⟩ : ∃ j_ : Int,(Int.tmod (J ((J (s0_1 + 1)) - 1)) (s0_0.length : Int)) = j_:=⟨_,rfl⟩
      replace H : (if 0 ≤ (ji14) then (if (ji14) < (s0_0.length : Int) then (if 0 ≤ (Int.tmod (J ((J ((J ((J (s0_1 + 1)) - 1)) * 7)) + 3)) (s0_0.length : Int)) then (if (Int.tmod (J ((J ((J ((J (s0_1 + 1)) - 1)) * 7)) + 3)) (s0_0.length : Int)) < (s0_0.length : Int) then (if a1 = 0 then (none) else (some (Int.tmod (Go.bits .xor .i64 (J ((J ((J ((J ((J (rd s0_0 (ji14))) * 131)) + (J ((J (rd s0_0 (Int.tmod (J ((J ((J ((J (s0_1 + 1)) - 1)) * 7)) + 3)) (s0_0.length : Int)))) * 1117)))) + (J ((J ((J (s0_1 + 1)) - 1)) * 29)))) + (J ((J (Int.tdiv (J ((J (s0_1 + 1)) - 1)) (s0_0.length : Int))) * 53)))) (J (Int.tdiv (J ((J ((J ((J ((J (rd s0_0 (ji14))) * 131)) + (J ((J (rd s0_0 (Int.tmod (J ((J ((J ((J (s0_1 + 1)) - 1)) * 7)) + 3)) (s0_0.length : Int)))) * 1117)))) + (J ((J ((J (s0_1 + 1)) - 1)) * 29)))) + (J ((J (Int.tdiv (J ((J (s0_1 + 1)) - 1)) (s0_0.length : Int))) * 53)))) 64))) a1,(J (s0_1 + 1))))) else (none)) else (none)) else (none)) else (none)) = some (r1,r2):=by first | (rw [hji14] at H;exact H) | (simp only [hji14] at H ⊢;exact H)
      by_cases c15 : 0 ≤ (ji14)
      ·rw [if_pos c15] at H;have c15b0 : decide (0 ≤ (ji14)) = true:=decide_eq_true c15;clear c15
       by_cases c16 : (ji14) < (s0_0.length : Int)
       ·rw [if_pos c16] at H;have c16b0 : decide ((ji14) < (s0_0.length : Int)) = true:=decide_eq_true c16;clear c16;obtain ⟨ji17,hji17⟩ : ∃ j_ : Int,(Int.tmod (J ((J ((J ((J (s0_1 + 1)) - 1)) * 7)) + 3)) (s0_0.length : Int)) = j_:=⟨_,rfl⟩
        replace H : (if 0 ≤ (ji17) then (if (ji17) < (s0_0.length : Int) then (if a1 = 0 then (none) else (some (Int.tmod (Go.bits .xor .i64 (J ((J ((J ((J ((J (rd s0_0 (ji14))) * 131)) + (J ((J (rd s0_0 (ji17))) * 1117)))) + (J ((J ((J (s0_1 + 1)) - 1)) * 29)))) + (J ((J (Int.tdiv (J ((J (s0_1 + 1)) - 1)) (s0_0.length : Int))) * 53)))) (J (Int.tdiv (J ((J ((J ((J ((J (rd s0_0 (ji14))) * 131)) + (J ((J (rd s0_0 (ji17))) * 1117)))) + (J ((J ((J (s0_1 + 1)) - 1)) * 29)))) + (J ((J (Int.tdiv (J ((J (s0_1 + 1)) - 1)) (s0_0.length : Int))) * 53)))) 64))) a1,(J (s0_1 + 1))))) else (none)) else (none)) = some (r1,r2):=by first | (rw [hji17] at H;exact H) | (simp only [hji17] at H ⊢;exact H)
        by_cases c18 : 0 ≤ (ji17)
        ·rw [if_pos c18] at H;have c18b0 : decide (0 ≤ (ji17)) = true:=decide_eq_true c18;clear c18
         by_cases c19 : (ji17) < (s0_0.length : Int)
         ·rw [if_pos c19] at H;have c19b0 : decide ((ji17) < (s0_0.length : Int)) = true:=decide_eq_true c19;clear c19
          by_cases c20 : a1 = 0
          ·rw [if_pos c20] at H
           exact absurd H (by simp)
          ·rw [if_neg c20] at H;obtain ⟨c20b0,c20b1⟩:=eqF c20;simp only [Option.some.injEq,Prod.mk.injEq] at H;obtain ⟨rfl,rfl⟩:=H;obtain ⟨ASz21_0,cSz21_0,HGz21,hgz21,HSz21_0⟩:=HI0.out;have hcz21_0:=cellS53_0 HGz21;have hcz21_1:=cellS53_1 HGz21;have hfz21_1:=blk_frozen HGz21 1;clear HGz21 hgz21
           have p105 : 0 ≤ ((ji14) : Int):=of_decide_eq_true (y51_)
           have q105 : (ji14) < (s0_0.length : Int):=of_decide_eq_true (y51_)
           obtain ⟨ad105,e105,hx105_0⟩:=Kd.at_int HSz21_0 (ji14) p105 q105
           cases e105
           replace hx105_0:=pw_cell_below HB.out hx105_0;replace p105:=eq_true p105;replace q105:=eq_true q105
           have p106 : 0 ≤ ((ji17) : Int):=of_decide_eq_true (y51_)
           have q106 : (ji17) < (s0_0.length : Int):=of_decide_eq_true (y51_)
           obtain ⟨ad106,e106,hx106_0⟩:=Kd.at_int HSz21_0 (ji17) p106 q106
           obtain rfl : ad105 = ad106:=(by injection e106)
           replace hx106_0:=pw_cell_below HB.out hx106_0;replace p106:=eq_true p106;replace q106:=eq_true q106
           go_wp2
           repeat (go_quiet (fail);try go_wp2)
           go_ret
           exact ⟨by first | rfl | (simp [errW_none,errW_some] <;> rfl) | (simp only [← hji14,← hji17];first | rfl | (simp [errW_none,errW_some] <;> rfl)) | (simp [*,errW_none,errW_some] <;> rfl),y53_ HI0,y55_ HB HI0,y54_ HK⟩
         ·rw [if_neg c19] at H
          exact absurd H (by simp)
        ·rw [if_neg c18] at H
         exact absurd H (by simp)
       ·rw [if_neg c16] at H
        exact absurd H (by simp)
      ·rw [if_neg c15] at H
       exact absurd H (by simp)
def spec_l11Rd_num.f (k : Nat) (s0_0 : List Int) (s0_1 : Int) (l1 : List Int) : Option (Int × Int):=(spec_l11Rd_pick.f k s0_0 s0_1 (l1.length : Int)).bind fun bt107=>(if 0 ≤ bt107.1 then (if bt107.1 < (l1.length : Int) then (some (rd l1 bt107.1,bt107.2)) else (none)) else (none))
set_option maxHeartbeats 8000000 in
set_option maxRecDepth 100000 in
theorem spec_l11Rd_num.calls (k : Nat) (g : Nat) (s0_0 : List Int) (s0_1 : Int) (A1 : Option Addr) (c1 : Nat) (l1 : List Int) (r1 : Int) (r2 : Int) (w0 w : World) (hI : IsS53 w0 w g s0_0 s0_1) (hB : Below w0.heap.size w0 w) (hr1 : Kd.C (Kd.int .i64) w A1 l1.length l1) (hc1 : l1.length ≤ c1) (hf1 : ∀ ad,A1 = some ad → 0 < l1.length → ad.block ≠ g) (h : spec_l11Rd_num.f k s0_0 s0_1 l1 = some (r1,r2)) :
  Calls Try.prog 27 #[.pointer (some ⟨g,0,none⟩),.slice A1 l1.length c1] w fun e w'=>e = .returned (.int .i64 r1) ∧ IsS53 w0 w' g s0_0 r2 ∧ Below w0.heap.size w0 w' ∧ KeepBut w w' g none:=by
 have HR1:=O hr1;have HC1:=O hc1;clear hr1 hc1;have HI0:=O hI;have HK:=O (KeepBut.refl w g none);have HL:=O hB.size;clear hI;have HW0:=O hB.size;have HB:=O hB;clear hB;have H : ((spec_l11Rd_pick.f k s0_0 s0_1 (l1.length : Int)).bind fun bt107=>(if 0 ≤ bt107.1 then (if bt107.1 < (l1.length : Int) then (some (rd l1 bt107.1,bt107.2)) else (none)) else (none))) = some (r1,r2):=h;clear h;replace H:=Option.bind_eq_some_iff.mp H;obtain ⟨⟨t107,t108⟩,A30,H⟩:=H;replace H : (if 0 ≤ t107 then (if t107 < (l1.length : Int) then (some (rd l1 t107,t108)) else (none)) else (none)) = some (r1,r2):=H;have A3:=O A30;clear A30
 by_cases c4 : 0 ≤ t107
 ·rw [if_pos c4] at H;have c4b0 : decide (0 ≤ t107) = true:=decide_eq_true c4;clear c4
  by_cases c5 : t107 < (l1.length : Int)
  ·rw [if_pos c5] at H;have c5b0 : decide (t107 < (l1.length : Int)) = true:=decide_eq_true c5;clear c5;simp only [Option.some.injEq,Prod.mk.injEq] at H;obtain ⟨rfl,rfl⟩:=H;go_enter Try.func27,Try.ntmps27
   go_wp2_with (first | ((with_reducible refine gate_callee (f:=16) rfl ?_);refine goesM_ (some 9) Try.func16 #[.pointer (some ⟨g,0,none⟩),.int .i64 (l1.length : Int)] ?_;(with_reducible refine (spec_l11Rd_pick.calls k g s0_0 s0_1 (l1.length : Int) t107 t108 w0 _ ?side1 ?side2 A3.out).mono ?_);(case side1=>exact q1_ HI0);(case side2=>exact q2_ HB HI0);rintro e w6 ⟨rfl,hi,hb,hk⟩;refine ⟨_,rfl,?_⟩;have n0_:=ap3 (KeepBut.trans (q3_ HK) hk (.inl rfl)) (hb) (hi);clear HK HB HI0;obtain ⟨HK,HB,HI0⟩:=n0_;(try clear hb);(try clear hk);(try clear hi);have p109 : 0 ≤ (t107 : Int):=of_decide_eq_true (y51_);have q109 : t107 < (l1.length : Int):=of_decide_eq_true (y51_);obtain ⟨ad109,e109,hx109_0⟩:=Kd.at_int HR1.out t107 p109 q109;cases e109;replace hx109_0:=keep_cell HK.out hx109_0 (by first | (rw [add_block];exact hf1 _ rfl (by omega)) | exact hf1 _ rfl (by omega) | exact hf1 ad109 rfl (by omega));replace p109:=eq_true p109;replace q109:=eq_true q109))
   go_ret
   exact ⟨by first | rfl | (simp [errW_none,errW_some] <;> rfl) | (simp [*,errW_none,errW_some] <;> rfl),y53_ HI0,y55_ HB HI0,y54_ HK⟩
  ·rw [if_neg c5] at H
   exact absurd H (by simp)
 ·rw [if_neg c4] at H
  exact absurd H (by simp)
end Go.Proofs.Ytfbocgagfodgnaa.P

namespace Go.Proofs.Ytfbocgagfodgnaa.P
open Go.RowKit Go.Proofs.YtfbocgagfodgnaaW.PrintWords Go.Proofs.YtfbocgagfodgnaaW.PrintLast Go.Proofs.YtfbocgagfodgnaaW.PrintMore
attribute [local go_sem] max2_int min2_int max_two min_two max_three min_three max_four min_four
set_option linter.unusedVariables false
set_option linter.unusedSimpArgs false
def spec_l1Max.f (a0 : Int) (a1 : Int) : Option (Int):=if a0 > a1 then (some a0) else (some a1)
set_option maxHeartbeats 8000000 in
set_option maxRecDepth 100000 in
theorem spec_l1Max.calls (a0 : Int) (a1 : Int) (r : Int) (w : World) (h : spec_l1Max.f a0 a1 = some r) :
  Calls Try.prog 28 #[.int .i64 a0,.int .i64 a1] w fun e w'=>e = .returned (.int .i64 r) ∧ Drawn0 w w':=by
 have H : (if a0 > a1 then (some a0) else (some a1)) = some r:=h;clear h
 by_cases c3 : a0 > a1
 ·rw [if_pos c3] at H;have c3b0 : decide (a1 < a0) = true:=decide_eq_true c3;clear c3;obtain rfl:=Option.some.inj H;go_enter Try.func28,Try.ntmps28
  go_wp2
  go_ret
  exact ⟨by first | rfl | (simp;done) | (simp [*];done),by repeat (first | exact Drawn0.refl _ | apply Drawn0.step)⟩
 ·rw [if_neg c3] at H;have c3b0 : decide (a1 < a0) = false:=decide_eq_false c3;clear c3;obtain rfl:=Option.some.inj H;go_enter Try.func28,Try.ntmps28
  go_wp2
  go_ret
  exact ⟨by first | rfl | (simp;done) | (simp [*];done),by repeat (first | exact Drawn0.refl _ | apply Drawn0.step)⟩
end Go.Proofs.Ytfbocgagfodgnaa.P

namespace Go.Proofs.Ytfbocgagfodgnaa.P
open Go.RowKit Go.Proofs.YtfbocgagfodgnaaW.PrintWords Go.Proofs.YtfbocgagfodgnaaW.PrintLast Go.Proofs.YtfbocgagfodgnaaW.PrintMore
open Go.Proofs.YtfbocgagfodgnaaW.PrintWords renaming Aside0.mk → O, KeepBut.trans → J, gate_callee → Y
open Option renaming bind_some → E, bind_eq_some_iff → U
attribute [local go_sem] max2_int min2_int max_two min_two max_three min_three max_four min_four
set_option linter.unusedVariables false
set_option linter.unusedSimpArgs false
mutual
def spec_l2Draw.j0 : Nat → Int → Int → Int → Int → Int → Bool → List Int → Int → Option (Int × Int × Int × Int × (List (S69)) × (List (S69)) × Int)
 | 0,_,_,_,_,_,_,_,_=>none
 | k + 1,x1,x2,x7,x8,x9,x44,x1000,x1001=>if x44 = true then ((spec_l11Rd_num.f k x1000 x1001 (([1,2,3,4,5] : List Int))).bind fun bt123=>(spec_l2Draw.j1 k x1 x2 x7 x8 bt123.1 x1000 bt123.2)) else (spec_l2Draw.j1 k x1 x2 x7 x8 x9 x1000 x1001)
def spec_l2Draw.j1 : Nat → Int → Int → Int → Int → Int → List Int → Int → Option (Int × Int × Int × Int × (List (S69)) × (List (S69)) × Int)
 | 0,_,_,_,_,_,_,_=>none
 | k + 1,x1,x2,x7,x8,x9,x1000,x1001=>if x9 = 1 then ((spec_l11Rd_num.f k x1000 x1001 (([0,1,2,3,(-1),5] : List Int))).bind fun bt128=>(some (x9,x7,0,bt128.1,([] : List (S69)),([] : List (S69)),bt128.2))) else (if x9 = 2 then ((spec_l11Rd_pick.f k x1000 x1001 5).bind fun bt130=>(some (x9,x7,x8,wrap64 (1 + bt130.1),([] : List (S69)),([] : List (S69)),bt130.2))) else (if x9 = 3 then (spec_l2Draw.j2 k x1 x2 x7 x8 x9 x9 (x9 == 3) x1000 x1001) else (spec_l2Draw.j2 k x1 x2 x7 x8 x9 x9 (x9 == 4) x1000 x1001)))
def spec_l2Draw.j2 : Nat → Int → Int → Int → Int → Int → Int → Bool → List Int → Int → Option (Int × Int × Int × Int × (List (S69)) × (List (S69)) × Int)
 | 0,_,_,_,_,_,_,_,_,_=>none
 | k + 1,x1,x2,x7,x8,x9,x48,x66,x1000,x1001=>if x66 = true then (some (x9,x7,x8,0,([] : List (S69)),([] : List (S69)),x1001)) else (if x48 = 5 then (some (x9,x7,0,0,([] : List (S69)),([] : List (S69)),x1001)) else (if x48 = 6 then ((spec_l2Draws.f k x1000 x1001 (wrap64 (x1 - 1)) x2 2).bind fun bt132=>((spec_l2Draws.f k x1000 bt132.2 (wrap64 (x1 - 1)) x2 2).bind fun bt136=>(some (x9,x7,0,0,bt132.1,bt136.1,bt136.2)))) else (if x48 = 7 then ((spec_l2Draws.f k x1000 x1001 (wrap64 (x1 - 1)) x2 2).bind fun bt140=>((spec_l11Rd_num.f k x1000 bt140.2 (([0,0,0,0,0,1] : List Int))).bind fun bt147=>(if bt140.1.length < 1759218604441 then (some (x9,x7,0,0,(bt140.1 ++ [(⟨1,x7,0,bt147.1,([] : List (S69)),([] : List (S69))⟩ : S69)]),([] : List (S69)),bt147.2)) else (none)))) else (if x48 = 8 then ((spec_l11Rd_pick.f k x1000 x1001 2).bind fun bt152=>((spec_l2Draws.f k x1000 bt152.2 (wrap64 (x1 - 1)) bt152.1 3).bind fun bt154=>(some (x9,bt152.1,0,0,bt154.1,([] : List (S69)),bt154.2)))) else (if x48 = 9 then ((spec_l11Rd_pick.f k x1000 x1001 2).bind fun bt158=>(some (x9,bt158.1,0,0,([] : List (S69)),([] : List (S69)),bt158.2))) else (if x48 = 10 then ((spec_l11Rd_pick.f k x1000 x1001 2).bind fun bt160=>(some (x9,bt160.1,0,0,([] : List (S69)),([] : List (S69)),bt160.2))) else (some (11,0,0,0,([] : List (S69)),([] : List (S69)),x1001))))))))
def spec_l2Draw.f : Nat → List Int → Int → Int → Int → Option (Int × Int × Int × Int × (List (S69)) × (List (S69)) × Int)
 | 0,_,_,_,_=>none
 | k + 1,s0_0,s0_1,a1,a2=>(spec_l11Rd_pick.f k s0_0 s0_1 3).bind fun bt111=>((spec_l11Rd_pick.f k s0_0 bt111.2 3).bind fun bt113=>((spec_l11Rd_num.f k s0_0 bt113.2 (([1,2,3,4,5,3,4,2,8,6,7,10,9,11,8,5] : List Int))).bind fun bt118=>(if a1 < 2 then (if bt118.1 ≥ 6 then (if bt118.1 ≤ 8 then (spec_l2Draw.j0 k a1 a2 bt111.1 bt113.1 bt118.1 true s0_0 bt118.2) else (if bt118.1 = 8 then (if a2 ≥ 0 then (spec_l2Draw.j0 k a1 a2 bt111.1 bt113.1 bt118.1 true s0_0 bt118.2) else (if bt118.1 = 9 then (spec_l2Draw.j0 k a1 a2 bt111.1 bt113.1 bt118.1 (decide (a2 < 0)) s0_0 bt118.2) else (spec_l2Draw.j0 k a1 a2 bt111.1 bt113.1 bt118.1 false s0_0 bt118.2))) else (if bt118.1 = 9 then (spec_l2Draw.j0 k a1 a2 bt111.1 bt113.1 bt118.1 (decide (a2 < 0)) s0_0 bt118.2) else (spec_l2Draw.j0 k a1 a2 bt111.1 bt113.1 bt118.1 false s0_0 bt118.2)))) else (if bt118.1 = 8 then (if a2 ≥ 0 then (spec_l2Draw.j0 k a1 a2 bt111.1 bt113.1 bt118.1 true s0_0 bt118.2) else (if bt118.1 = 9 then (spec_l2Draw.j0 k a1 a2 bt111.1 bt113.1 bt118.1 (decide (a2 < 0)) s0_0 bt118.2) else (spec_l2Draw.j0 k a1 a2 bt111.1 bt113.1 bt118.1 false s0_0 bt118.2))) else (if bt118.1 = 9 then (spec_l2Draw.j0 k a1 a2 bt111.1 bt113.1 bt118.1 (decide (a2 < 0)) s0_0 bt118.2) else (spec_l2Draw.j0 k a1 a2 bt111.1 bt113.1 bt118.1 false s0_0 bt118.2)))) else (if bt118.1 = 8 then (if a2 ≥ 0 then (spec_l2Draw.j0 k a1 a2 bt111.1 bt113.1 bt118.1 true s0_0 bt118.2) else (if bt118.1 = 9 then (spec_l2Draw.j0 k a1 a2 bt111.1 bt113.1 bt118.1 (decide (a2 < 0)) s0_0 bt118.2) else (spec_l2Draw.j0 k a1 a2 bt111.1 bt113.1 bt118.1 false s0_0 bt118.2))) else (if bt118.1 = 9 then (spec_l2Draw.j0 k a1 a2 bt111.1 bt113.1 bt118.1 (decide (a2 < 0)) s0_0 bt118.2) else (spec_l2Draw.j0 k a1 a2 bt111.1 bt113.1 bt118.1 false s0_0 bt118.2))))))
def spec_l2Draws.l0 : Nat → Int → Int → List (S69) → Int → List Int → Int → Option ((List (S69)) × Int)
 | 0,_,_,_,_,_,_=>none
 | k + 1,x1,x2,x9,x10,x1000,x1001=>if x10 > 0 then ((spec_l2Draw.f k x1000 x1001 x1 x2).bind fun bt167=>(if x9.length < 1759218604441 then (spec_l2Draws.l0 k x1 x2 (x9 ++ [(⟨bt167.1,bt167.2.1,bt167.2.2.1,bt167.2.2.2.1,bt167.2.2.2.2.1,bt167.2.2.2.2.2.1⟩ : S69)]) (wrap64 (x10 - 1)) x1000 bt167.2.2.2.2.2.2) else (none))) else (some (x9,x1001))
def spec_l2Draws.f : Nat → List Int → Int → Int → Int → Int → Option ((List (S69)) × Int)
 | 0,_,_,_,_,_=>none
 | k + 1,s0_0,s0_1,a1,a2,a3=>(spec_l11Rd_pick.f k s0_0 s0_1 (wrap64 (a3 + 1))).bind fun bt165=>(spec_l2Draws.l0 k a1 a2 (([] : List (S69))) bt165.1 s0_0 bt165.2)
end
abbrev spec_l2Draw.Says (k : Nat) : Prop:=∀ (g : Nat) (s0_0 : List Int) (s0_1 : Int) (a1 : Int) (a2 : Int) (r1 : Int) (r2 : Int) (r3 : Int) (r4 : Int) (r5 : List (S69)) (r6 : List (S69)) (r7 : Int) (w0 w : World) (hI : IsS53 w0 w g s0_0 s0_1) (hB : Below w0.heap.size w0 w) (h : spec_l2Draw.f k s0_0 s0_1 a1 a2 = some (r1,r2,r3,r4,r5,r6,r7)),
  Calls Try.prog 39 #[.pointer (some ⟨g,0,none⟩),.int .i64 a1,.int .i64 a2] w fun e w'=>∃ v4_ v5_ : Value,e = .returned (.agg #[.int .i64 r1,.int .i64 r2,.int .i64 r3,.int .i64 r4,v4_,v5_]) ∧ Kd.R k69 69 w' w.heap.size (fun k_=>some k_ ≠ (v5_ : Value).ownBlock) v4_ r5 ∧ Kd.R k69 69 w' w.heap.size (fun k_=>some k_ ≠ (v4_ : Value).ownBlock) v5_ r6 ∧ IsS53 w0 w' g s0_0 r7 ∧ Below w0.heap.size w0 w' ∧ KeepBut w w' g none
abbrev spec_l2Draws.Says (k : Nat) : Prop:=∀ (g : Nat) (s0_0 : List Int) (s0_1 : Int) (a1 : Int) (a2 : Int) (a3 : Int) (r1 : List (S69)) (r2 : Int) (w0 w : World) (hI : IsS53 w0 w g s0_0 s0_1) (hB : Below w0.heap.size w0 w) (h : spec_l2Draws.f k s0_0 s0_1 a1 a2 a3 = some (r1,r2)),
  Calls Try.prog 49 #[.pointer (some ⟨g,0,none⟩),.int .i64 a1,.int .i64 a2,.int .i64 a3] w fun e w'=>∃ v0_ : Value,e = .returned (v0_) ∧ Kd.R k69 69 w' w.heap.size (fun _=>True) v0_ r1 ∧ IsS53 w0 w' g s0_0 r2 ∧ Below w0.heap.size w0 w' ∧ KeepBut w w' g none
private theorem y1_ {A Z : Prop} (a0 : Aside0 A) (h : A → Z:=by intro h0_;repeat (first | (with_reducible first | exact h0_ | apply IsS53.alloc | apply IsS53.drewN | apply IsS53.drew | apply IsS53.set_1) | exact h0_)) : Z:=h a0.out
private theorem y2_ {A Z : Prop} (a0 : Aside0 A) (h : A → Z:=by intro h0_;repeat (first | exact (Kd.R_reads' h0_).2.2 | (with_reducible refine Kd.C_alloc ?_ _) | (with_reducible refine Kd.C_drewN ?_ _) | (with_reducible refine Kd.C_drew ?_))) : Z:=h a0.out
private theorem y3_ {A B Z : Prop} (a0 : Aside0 A) (a1 : Aside0 B) (h : A → B → Z:=by intro h0_ h1_;repeat (first | (with_reducible first | exact h0_ | apply IsS53.alloc | apply IsS53.drewN | apply IsS53.drew | apply IsS53.set_1 | refine IsS53.far ?_ h1_ _) | exact h0_)) : Z:=h a0.out a1.out
private theorem y4_ {Z : Prop} (h : Z:=by first | rfl | (simp;done) | (simp [*];done)) : Z:=h
private theorem y5_ {Z : Prop} (h : Z:=by first | omega | exact Nat.le_refl _) : Z:=h
private theorem y6_ {A Z : Prop} (a0 : Aside0 A) (h : A → Z:=by intro h0_;(with_reducible repeat (first | refine blk_drewN ?_ _ | refine blk_drew ?_ | refine blk_alloc ?_ _));exact h0_) : Z:=h a0.out
private theorem y7_ {A B Z : Prop} (a0 : Aside0 A) (a1 : Aside0 B) (h : A → B → Z:=by intro h0_ h1_;repeat (first | (with_reducible first | exact h0_ | apply KeepBut.set_ | apply keep_drewN | apply keep_drew | apply keep_alloc | refine keep_far ?_ h1_ _) | exact h0_)) : Z:=h a0.out a1.out
private theorem y8_ {A B C Z : Prop} (a0 : Aside0 A) (a1 : Aside0 B) (a2 : Aside0 C) (h : A → B → C → Z:=by intro h0_ h1_ h2_;repeat (first | (with_reducible first | exact h0_ | apply below_alloc | apply pw_below_drewN | apply below_drew1 | refine below_set ?_ (IsS53.ge h1_) | refine below_set ?_ h2_) | exact h0_)) : Z:=h a0.out a1.out a2.out
private theorem y9_ {Z : Prop} (h : Z:=by first | rfl | (simp [errW_none,errW_some] <;> rfl) | (simp [*,errW_none,errW_some] <;> rfl)) : Z:=h
private theorem y10_ {Z : Prop} (h : Z:=by first | exact Kd.R_nil _ _ _ _ _ | exact Kd.N_nil _ _ _ _ _ | exact Kd.V_nil _ _ _ _ _ | exact Kd.Q_nil _ _ _ _ _ | exact Kd.S_nil _ _ _ _ _) : Z:=h
private theorem y11_ {A Z : Prop} (a0 : Aside0 A) (h : A → Z:=by intro h0_;(with_reducible repeat (first | apply Kd.R_alloc | apply Kd.R_drewN | apply Kd.R_drew));exact h0_) : Z:=h a0.out
private theorem y12_ {A Z : Prop} (a0 : Aside0 A) (h : A → Z:=by intro h0_;repeat (first | (with_reducible first | exact h0_ | apply KeepBut.set_ | apply keep_drewN | apply keep_drew | apply keep_alloc) | exact h0_)) : Z:=h a0.out
private theorem y13_ {A B Z : Prop} (a0 : Aside0 A) (a1 : Aside0 B) (h : A → B → Z:=by intro h0_ h1_;repeat (first | (with_reducible first | exact h0_ | apply below_alloc | apply pw_below_drewN | apply below_drew1 | refine below_set ?_ (IsS53.ge h1_)) | exact h0_)) : Z:=h a0.out a1.out
set_option maxHeartbeats 8000000 in
set_option maxRecDepth 100000 in
theorem spec_l2Draw.calls_ (k : Nat) (ih_spec_l2Draw : ∀ k_,k_ < k → spec_l2Draw.Says k_) (ih_spec_l2Draws : ∀ k_,k_ < k → spec_l2Draws.Says k_) : spec_l2Draw.Says k:=by
 intro g s0_0 s0_1 a1 a2 r1 r2 r3 r4 r5 r6 r7 w0 w hI hB h
 cases k with
 | zero=>exact absurd h (by simp [spec_l2Draw.f])
 | succ k =>
 simp only [spec_l2Draw.f] at h;have hu69:=Try.underlying69;have HI0:=O hI;have HK:=O (KeepBut.refl w g none);have HL:=O hB.size;clear hI;have HW0:=O hB.size;have HB:=O hB;clear hB
 have H : ((spec_l11Rd_pick.f k s0_0 s0_1 3).bind fun bt111=>((spec_l11Rd_pick.f k s0_0 bt111.2 3).bind fun bt113=>((spec_l11Rd_num.f k s0_0 bt113.2 (([1,2,3,4,5,3,4,2,8,6,7,10,9,11,8,5] : List Int))).bind fun bt118=>(if a1 < 2 then (if bt118.1 ≥ 6 then (if bt118.1 ≤ 8 then (spec_l2Draw.j0 k a1 a2 bt111.1 bt113.1 bt118.1 true s0_0 bt118.2) else (if bt118.1 = 8 then (if a2 ≥ 0 then (spec_l2Draw.j0 k a1 a2 bt111.1 bt113.1 bt118.1 true s0_0 bt118.2) else (if bt118.1 = 9 then (spec_l2Draw.j0 k a1 a2 bt111.1 bt113.1 bt118.1 (decide (a2 < 0)) s0_0 bt118.2) else (spec_l2Draw.j0 k a1 a2 bt111.1 bt113.1 bt118.1 false s0_0 bt118.2))) else (if bt118.1 = 9 then (spec_l2Draw.j0 k a1 a2 bt111.1 bt113.1 bt118.1 (decide (a2 < 0)) s0_0 bt118.2) else (spec_l2Draw.j0 k a1 a2 bt111.1 bt113.1 bt118.1 false s0_0 bt118.2)))) else (if bt118.1 = 8 then (if a2 ≥ 0 then (spec_l2Draw.j0 k a1 a2 bt111.1 bt113.1 bt118.1 true s0_0 bt118.2) else (if bt118.1 = 9 then (spec_l2Draw.j0 k a1 a2 bt111.1 bt113.1 bt118.1 (decide (a2 < 0)) s0_0 bt118.2) else (spec_l2Draw.j0 k a1 a2 bt111.1 bt113.1 bt118.1 false s0_0 bt118.2))) else (if bt118.1 = 9 then (spec_l2Draw.j0 k a1 a2 bt111.1 bt113.1 bt118.1 (decide (a2 < 0)) s0_0 bt118.2) else (spec_l2Draw.j0 k a1 a2 bt111.1 bt113.1 bt118.1 false s0_0 bt118.2)))) else (if bt118.1 = 8 then (if a2 ≥ 0 then (spec_l2Draw.j0 k a1 a2 bt111.1 bt113.1 bt118.1 true s0_0 bt118.2) else (if bt118.1 = 9 then (spec_l2Draw.j0 k a1 a2 bt111.1 bt113.1 bt118.1 (decide (a2 < 0)) s0_0 bt118.2) else (spec_l2Draw.j0 k a1 a2 bt111.1 bt113.1 bt118.1 false s0_0 bt118.2))) else (if bt118.1 = 9 then (spec_l2Draw.j0 k a1 a2 bt111.1 bt113.1 bt118.1 (decide (a2 < 0)) s0_0 bt118.2) else (spec_l2Draw.j0 k a1 a2 bt111.1 bt113.1 bt118.1 false s0_0 bt118.2))))))) = some (r1,r2,r3,r4,r5,r6,r7):=h
 clear h;replace H:=U.mp H;obtain ⟨⟨t111,t112⟩,A40,H⟩:=H
 replace H : ((spec_l11Rd_pick.f k s0_0 t112 3).bind fun bt113=>((spec_l11Rd_num.f k s0_0 bt113.2 (([1,2,3,4,5,3,4,2,8,6,7,10,9,11,8,5] : List Int))).bind fun bt118=>(if a1 < 2 then (if bt118.1 ≥ 6 then (if bt118.1 ≤ 8 then (spec_l2Draw.j0 k a1 a2 t111 bt113.1 bt118.1 true s0_0 bt118.2) else (if bt118.1 = 8 then (if a2 ≥ 0 then (spec_l2Draw.j0 k a1 a2 t111 bt113.1 bt118.1 true s0_0 bt118.2) else (if bt118.1 = 9 then (spec_l2Draw.j0 k a1 a2 t111 bt113.1 bt118.1 (decide (a2 < 0)) s0_0 bt118.2) else (spec_l2Draw.j0 k a1 a2 t111 bt113.1 bt118.1 false s0_0 bt118.2))) else (if bt118.1 = 9 then (spec_l2Draw.j0 k a1 a2 t111 bt113.1 bt118.1 (decide (a2 < 0)) s0_0 bt118.2) else (spec_l2Draw.j0 k a1 a2 t111 bt113.1 bt118.1 false s0_0 bt118.2)))) else (if bt118.1 = 8 then (if a2 ≥ 0 then (spec_l2Draw.j0 k a1 a2 t111 bt113.1 bt118.1 true s0_0 bt118.2) else (if bt118.1 = 9 then (spec_l2Draw.j0 k a1 a2 t111 bt113.1 bt118.1 (decide (a2 < 0)) s0_0 bt118.2) else (spec_l2Draw.j0 k a1 a2 t111 bt113.1 bt118.1 false s0_0 bt118.2))) else (if bt118.1 = 9 then (spec_l2Draw.j0 k a1 a2 t111 bt113.1 bt118.1 (decide (a2 < 0)) s0_0 bt118.2) else (spec_l2Draw.j0 k a1 a2 t111 bt113.1 bt118.1 false s0_0 bt118.2)))) else (if bt118.1 = 8 then (if a2 ≥ 0 then (spec_l2Draw.j0 k a1 a2 t111 bt113.1 bt118.1 true s0_0 bt118.2) else (if bt118.1 = 9 then (spec_l2Draw.j0 k a1 a2 t111 bt113.1 bt118.1 (decide (a2 < 0)) s0_0 bt118.2) else (spec_l2Draw.j0 k a1 a2 t111 bt113.1 bt118.1 false s0_0 bt118.2))) else (if bt118.1 = 9 then (spec_l2Draw.j0 k a1 a2 t111 bt113.1 bt118.1 (decide (a2 < 0)) s0_0 bt118.2) else (spec_l2Draw.j0 k a1 a2 t111 bt113.1 bt118.1 false s0_0 bt118.2)))))) = some (r1,r2,r3,r4,r5,r6,r7):=H
 have A4:=O A40;clear A40;replace H:=U.mp H;obtain ⟨⟨t113,t114⟩,A50,H⟩:=H
 replace H : ((spec_l11Rd_num.f k s0_0 t114 (([1,2,3,4,5,3,4,2,8,6,7,10,9,11,8,5] : List Int))).bind fun bt118=>(if a1 < 2 then (if bt118.1 ≥ 6 then (if bt118.1 ≤ 8 then (spec_l2Draw.j0 k a1 a2 t111 t113 bt118.1 true s0_0 bt118.2) else (if bt118.1 = 8 then (if a2 ≥ 0 then (spec_l2Draw.j0 k a1 a2 t111 t113 bt118.1 true s0_0 bt118.2) else (if bt118.1 = 9 then (spec_l2Draw.j0 k a1 a2 t111 t113 bt118.1 (decide (a2 < 0)) s0_0 bt118.2) else (spec_l2Draw.j0 k a1 a2 t111 t113 bt118.1 false s0_0 bt118.2))) else (if bt118.1 = 9 then (spec_l2Draw.j0 k a1 a2 t111 t113 bt118.1 (decide (a2 < 0)) s0_0 bt118.2) else (spec_l2Draw.j0 k a1 a2 t111 t113 bt118.1 false s0_0 bt118.2)))) else (if bt118.1 = 8 then (if a2 ≥ 0 then (spec_l2Draw.j0 k a1 a2 t111 t113 bt118.1 true s0_0 bt118.2) else (if bt118.1 = 9 then (spec_l2Draw.j0 k a1 a2 t111 t113 bt118.1 (decide (a2 < 0)) s0_0 bt118.2) else (spec_l2Draw.j0 k a1 a2 t111 t113 bt118.1 false s0_0 bt118.2))) else (if bt118.1 = 9 then (spec_l2Draw.j0 k a1 a2 t111 t113 bt118.1 (decide (a2 < 0)) s0_0 bt118.2) else (spec_l2Draw.j0 k a1 a2 t111 t113 bt118.1 false s0_0 bt118.2)))) else (if bt118.1 = 8 then (if a2 ≥ 0 then (spec_l2Draw.j0 k a1 a2 t111 t113 bt118.1 true s0_0 bt118.2) else (if bt118.1 = 9 then (spec_l2Draw.j0 k a1 a2 t111 t113 bt118.1 (decide (a2 < 0)) s0_0 bt118.2) else (spec_l2Draw.j0 k a1 a2 t111 t113 bt118.1 false s0_0 bt118.2))) else (if bt118.1 = 9 then (spec_l2Draw.j0 k a1 a2 t111 t113 bt118.1 (decide (a2 < 0)) s0_0 bt118.2) else (spec_l2Draw.j0 k a1 a2 t111 t113 bt118.1 false s0_0 bt118.2))))) = some (r1,r2,r3,r4,r5,r6,r7):=H
 have A5:=O A50;clear A50;obtain ⟨y115,hy115⟩ : ∃ y_ : List Int,y_ = (([1,2,3,4,5,3,4,2,8,6,7,10,9,11,8,5] : List Int)):=⟨_,rfl⟩
 replace H : ((spec_l11Rd_num.f k s0_0 t114 y115).bind fun bt118=>(if a1 < 2 then (if bt118.1 ≥ 6 then (if bt118.1 ≤ 8 then (spec_l2Draw.j0 k a1 a2 t111 t113 bt118.1 true s0_0 bt118.2) else (if bt118.1 = 8 then (if a2 ≥ 0 then (spec_l2Draw.j0 k a1 a2 t111 t113 bt118.1 true s0_0 bt118.2) else (if bt118.1 = 9 then (spec_l2Draw.j0 k a1 a2 t111 t113 bt118.1 (decide (a2 < 0)) s0_0 bt118.2) else (spec_l2Draw.j0 k a1 a2 t111 t113 bt118.1 false s0_0 bt118.2))) else (if bt118.1 = 9 then (spec_l2Draw.j0 k a1 a2 t111 t113 bt118.1 (decide (a2 < 0)) s0_0 bt118.2) else (spec_l2Draw.j0 k a1 a2 t111 t113 bt118.1 false s0_0 bt118.2)))) else (if bt118.1 = 8 then (if a2 ≥ 0 then (spec_l2Draw.j0 k a1 a2 t111 t113 bt118.1 true s0_0 bt118.2) else (if bt118.1 = 9 then (spec_l2Draw.j0 k a1 a2 t111 t113 bt118.1 (decide (a2 < 0)) s0_0 bt118.2) else (spec_l2Draw.j0 k a1 a2 t111 t113 bt118.1 false s0_0 bt118.2))) else (if bt118.1 = 9 then (spec_l2Draw.j0 k a1 a2 t111 t113 bt118.1 (decide (a2 < 0)) s0_0 bt118.2) else (spec_l2Draw.j0 k a1 a2 t111 t113 bt118.1 false s0_0 bt118.2)))) else (if bt118.1 = 8 then (if a2 ≥ 0 then (spec_l2Draw.j0 k a1 a2 t111 t113 bt118.1 true s0_0 bt118.2) else (if bt118.1 = 9 then (spec_l2Draw.j0 k a1 a2 t111 t113 bt118.1 (decide (a2 < 0)) s0_0 bt118.2) else (spec_l2Draw.j0 k a1 a2 t111 t113 bt118.1 false s0_0 bt118.2))) else (if bt118.1 = 9 then (spec_l2Draw.j0 k a1 a2 t111 t113 bt118.1 (decide (a2 < 0)) s0_0 bt118.2) else (spec_l2Draw.j0 k a1 a2 t111 t113 bt118.1 false s0_0 bt118.2))))) = some (r1,r2,r3,r4,r5,r6,r7):=by first | (rw [hy115];with_reducible exact H) | (have H2_:=(E _ _).symm.trans H;rw [hy115];with_reducible exact H2_) | (have H2_:=(E _ _).symm.trans H;with_reducible exact H2_) | with_reducible exact H | (rw [hy115];exact H) | exact H
 have Ny115:=O hy115;clear hy115;replace H:=U.mp H;obtain ⟨⟨t118,t119⟩,A60,H⟩:=H
 replace H : (if a1 < 2 then (if t118 ≥ 6 then (if t118 ≤ 8 then (spec_l2Draw.j0 k a1 a2 t111 t113 t118 true s0_0 t119) else (if t118 = 8 then (if a2 ≥ 0 then (spec_l2Draw.j0 k a1 a2 t111 t113 t118 true s0_0 t119) else (if t118 = 9 then (spec_l2Draw.j0 k a1 a2 t111 t113 t118 (decide (a2 < 0)) s0_0 t119) else (spec_l2Draw.j0 k a1 a2 t111 t113 t118 false s0_0 t119))) else (if t118 = 9 then (spec_l2Draw.j0 k a1 a2 t111 t113 t118 (decide (a2 < 0)) s0_0 t119) else (spec_l2Draw.j0 k a1 a2 t111 t113 t118 false s0_0 t119)))) else (if t118 = 8 then (if a2 ≥ 0 then (spec_l2Draw.j0 k a1 a2 t111 t113 t118 true s0_0 t119) else (if t118 = 9 then (spec_l2Draw.j0 k a1 a2 t111 t113 t118 (decide (a2 < 0)) s0_0 t119) else (spec_l2Draw.j0 k a1 a2 t111 t113 t118 false s0_0 t119))) else (if t118 = 9 then (spec_l2Draw.j0 k a1 a2 t111 t113 t118 (decide (a2 < 0)) s0_0 t119) else (spec_l2Draw.j0 k a1 a2 t111 t113 t118 false s0_0 t119)))) else (if t118 = 8 then (if a2 ≥ 0 then (spec_l2Draw.j0 k a1 a2 t111 t113 t118 true s0_0 t119) else (if t118 = 9 then (spec_l2Draw.j0 k a1 a2 t111 t113 t118 (decide (a2 < 0)) s0_0 t119) else (spec_l2Draw.j0 k a1 a2 t111 t113 t118 false s0_0 t119))) else (if t118 = 9 then (spec_l2Draw.j0 k a1 a2 t111 t113 t118 (decide (a2 < 0)) s0_0 t119) else (spec_l2Draw.j0 k a1 a2 t111 t113 t118 false s0_0 t119)))) = some (r1,r2,r3,r4,r5,r6,r7):=H
 have A6:=O A60;clear A60;have HC7:=O H;clear H;go_enter Try.func39,Try.ntmps39
 go_upto_region 4 with (first | ((with_reducible refine gate_dst (N:=6) rfl ?_);refine box_event ?hg (N:=6) ?hd (cs:=#[.int .i64 0,.int .i64 0,.int .i64 0,.int .i64 0,.slice none 0 0,.slice none 0 0]) (t:=69) ?hr ?_;(case hd=>rfl);(case hg=>rfl);(case hr=>first | (go_simp;done) | (go_simp;rfl));intro gb110 hg w8 hbox hb;have n0_:=ap8 (IsS53.below (q1_ HI0) hb) (J (q3_ HK) (KeepBut.of_below hb g none) (.inl rfl)) (below_step (q2_ HB HI0) hb) (hbox) ((by rw [hg];exact (keep_size (w:=w) (g:=g) (row:=none) (q3_ HK)) : w.heap.size ≤ gb110)) ((Nat.le_trans HW0.out (by rw [hg];exact (keep_size (w:=w) (g:=g) (row:=none) (q3_ HK)) : w.heap.size ≤ gb110) : w0.heap.size ≤ gb110)) ((by rw [hg];exact Nat.ne_of_lt (IsS53.lt (show IsS53 w0 _ g s0_0 s0_1 from y1_ HI0)) : g ≠ gb110)) ((by rw [hg];exact Nat.ne_of_gt (IsS53.lt (show IsS53 w0 _ g s0_0 s0_1 from y1_ HI0)) : gb110 ≠ g));clear HI0 HK HB;obtain ⟨HI0,HK,HB,BK110,GW110,GE110,NB0_110,NB110_0⟩:=n0_;clear hb hbox hg) | ((with_reducible refine Y (f:=16) rfl ?_);refine goesM_ (some 13) Try.func16 #[.pointer (some ⟨g,0,none⟩),.int .i64 3] ?_;(with_reducible refine (spec_l11Rd_pick.calls k g s0_0 s0_1 3 t111 t112 w0 _ ?side1 ?side2 A4.out).mono ?_);(case side1=>exact q4_ HI0 NB0_110);(case side2=>exact q5_ HB HI0 GE110);rintro e w9 ⟨rfl,hi,hb,hk⟩;refine ⟨_,rfl,?_⟩;have n0_:=ap4 (KeepBut.blk hk (g':=gb110) (o:=.cells #[.int .i64 0,.int .i64 0,.int .i64 0,.int .i64 0,.slice none 0 0,.slice none 0 0] 69 (0,0)) (q6_ BK110) NB110_0.out (by simp)) (J (q7_ HK GW110) hk (.inl rfl)) (hb) (hi);clear BK110 HK HB HI0;obtain ⟨BK110,HK,HB,HI0⟩:=n0_;(try clear hb);(try clear hk);(try clear hi)) | ((with_reducible refine Y (f:=16) rfl ?_);refine goesM_ (some 15) Try.func16 #[.pointer (some ⟨g,0,none⟩),.int .i64 3] ?_;(with_reducible refine (spec_l11Rd_pick.calls k g s0_0 t112 3 t113 t114 w0 _ ?side1 ?side2 A5.out).mono ?_);(case side1=>exact q4_ HI0 NB0_110);(case side2=>exact q5_ HB HI0 GE110);rintro e w10 ⟨rfl,hi,hb,hk⟩;refine ⟨_,rfl,?_⟩;have n0_:=ap4 (KeepBut.blk hk (g':=gb110) (o:=.cells #[.int .i64 0,.int .i64 0,.int .i64 0,.int .i64 0,.slice none 0 0,.slice none 0 0] 69 (0,0)) (q6_ BK110) NB110_0.out (by simp)) (J (q7_ HK GW110) hk (.inl rfl)) (hb) (hi);clear BK110 HK HB HI0;obtain ⟨BK110,HK,HB,HI0⟩:=n0_;(try clear hb);(try clear hk);(try clear hi)) | ((with_reducible refine gate_dst (N:=17) rfl ?_);refine Kd.R_lit (Kd.int .i64) _ 3 ?hg (N:=17) ?hd (xs:=([1,2,3,4,5,3,4,2,8,6,7,10,9,11,8,5] : List Int)) (inner:=[.int .i64 1,.int .i64 2,.int .i64 3,.int .i64 4,.int .i64 5,.int .i64 3,.int .i64 4,.int .i64 2,.int .i64 8,.int .i64 6,.int .i64 7,.int .i64 10,.int .i64 9,.int .i64 11,.int .i64 8,.int .i64 5]) (ok:=fun _=>True) (okp:=fun _=>True) ?hr ?hp (fun _ hk=>hk) trivial (Below.refl _ _) (Nat.le_refl _) (by simp) ?_;(case hd=>rfl);(case hg=>rfl);(case hr=>first | (go_simp;done) | (go_simp;rfl));(case hp=>exact (Reps.one (show Kd.M (Kd.int .i64) _ _ _ 1 [.int .i64 1] from rfl) (Reps.one (show Kd.M (Kd.int .i64) _ _ _ 2 [.int .i64 2] from rfl) (Reps.one (show Kd.M (Kd.int .i64) _ _ _ 3 [.int .i64 3] from rfl) (Reps.one (show Kd.M (Kd.int .i64) _ _ _ 4 [.int .i64 4] from rfl) (Reps.one (show Kd.M (Kd.int .i64) _ _ _ 5 [.int .i64 5] from rfl) (Reps.one (show Kd.M (Kd.int .i64) _ _ _ 3 [.int .i64 3] from rfl) (Reps.one (show Kd.M (Kd.int .i64) _ _ _ 4 [.int .i64 4] from rfl) (Reps.one (show Kd.M (Kd.int .i64) _ _ _ 2 [.int .i64 2] from rfl) (Reps.one (show Kd.M (Kd.int .i64) _ _ _ 8 [.int .i64 8] from rfl) (Reps.one (show Kd.M (Kd.int .i64) _ _ _ 6 [.int .i64 6] from rfl) (Reps.one (show Kd.M (Kd.int .i64) _ _ _ 7 [.int .i64 7] from rfl) (Reps.one (show Kd.M (Kd.int .i64) _ _ _ 10 [.int .i64 10] from rfl) (Reps.one (show Kd.M (Kd.int .i64) _ _ _ 9 [.int .i64 9] from rfl) (Reps.one (show Kd.M (Kd.int .i64) _ _ _ 11 [.int .i64 11] from rfl) (Reps.one (show Kd.M (Kd.int .i64) _ _ _ 8 [.int .i64 8] from rfl) (Reps.one (show Kd.M (Kd.int .i64) _ _ _ 5 [.int .i64 5] from rfl) (Reps.none _ _))))))))))))))))));intro v116 w11 ho12 hb hg_ hnew_;clear hg_ hnew_;(first | rw [← Ny115.out] at ho12 | (simp only [Int.reduceToNat] at ho12;rw [← Ny115.out] at ho12));have n0_:=ap5 (Kd.R_lower ho12 (keep_size (w:=w) (g:=g) (row:=none) (q7_ HK GW110))) (IsS53.below (q4_ HI0 NB0_110) hb) (blk_below (g:=gb110) (o:=.cells #[.int .i64 0,.int .i64 0,.int .i64 0,.int .i64 0,.slice none 0 0,.slice none 0 0] 69 (0,0)) (q6_ BK110) hb) (J (q7_ HK GW110) (KeepBut.of_below hb g none) (.inl rfl)) (below_step (q5_ HB HI0 GE110) hb);clear HI0 BK110 HK HB;obtain ⟨HO117,HI0,BK110,HK,HB⟩:=n0_;clear hb ho12;obtain ⟨Ao13,co13,eo13⟩:=Kd.R_slice HO117.out;subst eo13) | ((with_reducible refine Y (f:=27) rfl ?_);refine goesM_ (some 18) Try.func27 #[.pointer (some ⟨g,0,none⟩),.slice Ao13 y115.length co13] ?_;(with_reducible refine (spec_l11Rd_num.calls k g s0_0 t114 _ _ y115 t118 t119 w0 _ ?side1 ?side2 ?side3 ?side4 ?side5 A6.out).mono ?_);(case side1=>exact q4_ HI0 NB0_110);(case side2=>exact q5_ HB HI0 GE110);(case side3=>exact y2_ HO117);(case side4=>exact (Kd.R_reads' HO117.out).2.1);(case side5=>exact far_slice (IsS53.own_ne HI0.out HO117.out (by decide)));rintro e w14 ⟨rfl,hi,hb,hk⟩;refine ⟨_,rfl,?_⟩;have n0_:=ap5 (KeepBut.blk hk (g':=gb110) (o:=.cells #[.int .i64 0,.int .i64 0,.int .i64 0,.int .i64 0,.slice none 0 0,.slice none 0 0] 69 (0,0)) (q6_ BK110) NB110_0.out (by simp)) (Kd.R_mono (Kd.R_keep (IsS53.apart (show IsS53 w0 _ g s0_0 t114 from y3_ HI0 NB0_110) (q8_ HO117) (by decide)) hk (fun _ h=>h.2)) (fun _ h=>h.1)) (J (q7_ HK GW110) hk (.inl rfl)) (hb) (hi);clear BK110 HO117 HK HB HI0;obtain ⟨BK110,HO117,HK,HB,HI0⟩:=n0_;(try clear hb);(try clear hk);(try clear hi)))
 (try simp only [Act.put,List.setIfInBounds_toArray,List.set_cons_zero,List.set_cons_succ])
 go_cut [44] (fun v44 wc=>∃ (kq : Nat) (x44_6 : Bool),v44 = .bool x44_6 ∧ Aside0 (spec_l2Draw.j0 kq a1 a2 t111 t113 t118 x44_6 s0_0 t119 = some (r1,r2,r3,r4,r5,r6,r7)) ∧ Aside0 (kq ≤ k) ∧ Aside0 (wc.heap[gb110]? = some (.cells #[.int .i64 0,.int .i64 0,.int .i64 0,.int .i64 0,(.slice none 0 0),(.slice none 0 0)] 69 (0,0))) ∧ Aside0 (IsS53 w0 wc g s0_0 t119) ∧ Aside0 (KeepBut w wc g none) ∧ Aside0 (Below w0.heap.size w0 wc))
 case first =>
  have H:=HC7.out;clear HC7
  by_cases c15 : a1 < 2
  ·rw [if_pos c15] at H;have c15b0 : decide (a1 < 2) = true:=decide_eq_true c15;clear c15
   (first | rw [c15b0] | (simp only [i64_w,i32_w];rw [c15b0]) | skip)
   by_cases c16 : t118 ≥ 6
   ·rw [if_pos c16] at H;have c16b0 : decide (6 ≤ t118) = true:=decide_eq_true c16;clear c16
    by_cases c17 : t118 ≤ 8
    ·rw [if_pos c17] at H;have c17b0 : decide (t118 ≤ 8) = true:=decide_eq_true c17;clear c17;have H':=O H;clear H
     go_wp2
     go_meet
     case rel=>exact ⟨_,(true),(y4_),H',⟨y5_⟩,⟨y6_ BK110⟩,⟨y3_ HI0 NB0_110⟩,⟨y7_ HK GW110⟩,⟨y8_ HB HI0 GE110⟩⟩
    ·rw [if_neg c17] at H;have c17b0 : decide (t118 ≤ 8) = false:=decide_eq_false c17;clear c17
     by_cases c18 : t118 = 8
     ·rw [if_pos c18] at H;obtain ⟨c18b0,c18b1⟩:=eqT c18;clear c18
      by_cases c19 : a2 ≥ 0
      ·rw [if_pos c19] at H;have c19b0 : decide (0 ≤ a2) = true:=decide_eq_true c19;clear c19;have H':=O H;clear H
       go_wp2
       go_meet
       case rel=>exact ⟨_,(true),(y4_),H',⟨y5_⟩,⟨y6_ BK110⟩,⟨y3_ HI0 NB0_110⟩,⟨y7_ HK GW110⟩,⟨y8_ HB HI0 GE110⟩⟩
      ·rw [if_neg c19] at H;have c19b0 : decide (0 ≤ a2) = false:=decide_eq_false c19;clear c19
       by_cases c20 : t118 = 9
       ·rw [if_pos c20] at H;obtain ⟨c20b0,c20b1⟩:=eqT c20;clear c20;have H':=O H;clear H
        go_wp2
        go_meet
        case rel=>exact ⟨_,(decide (a2 < 0)),(y4_),H',⟨y5_⟩,⟨y6_ BK110⟩,⟨y3_ HI0 NB0_110⟩,⟨y7_ HK GW110⟩,⟨y8_ HB HI0 GE110⟩⟩
       ·rw [if_neg c20] at H;obtain ⟨c20b0,c20b1⟩:=eqF c20;have H':=O H;clear H
        go_wp2
        go_meet
        case rel=>exact ⟨_,(false),(y4_),H',⟨y5_⟩,⟨y6_ BK110⟩,⟨y3_ HI0 NB0_110⟩,⟨y7_ HK GW110⟩,⟨y8_ HB HI0 GE110⟩⟩
     ·rw [if_neg c18] at H;obtain ⟨c18b0,c18b1⟩:=eqF c18
      by_cases c21 : t118 = 9
      ·rw [if_pos c21] at H;obtain ⟨c21b0,c21b1⟩:=eqT c21;clear c21;have H':=O H;clear H
       go_wp2
       go_meet
       case rel=>exact ⟨_,(decide (a2 < 0)),(y4_),H',⟨y5_⟩,⟨y6_ BK110⟩,⟨y3_ HI0 NB0_110⟩,⟨y7_ HK GW110⟩,⟨y8_ HB HI0 GE110⟩⟩
      ·rw [if_neg c21] at H;obtain ⟨c21b0,c21b1⟩:=eqF c21;have H':=O H;clear H
       go_wp2
       go_meet
       case rel=>exact ⟨_,(false),(y4_),H',⟨y5_⟩,⟨y6_ BK110⟩,⟨y3_ HI0 NB0_110⟩,⟨y7_ HK GW110⟩,⟨y8_ HB HI0 GE110⟩⟩
   ·rw [if_neg c16] at H;have c16b0 : decide (6 ≤ t118) = false:=decide_eq_false c16;clear c16
    by_cases c22 : t118 = 8
    ·rw [if_pos c22] at H;obtain ⟨c22b0,c22b1⟩:=eqT c22;clear c22
     by_cases c23 : a2 ≥ 0
     ·rw [if_pos c23] at H;have c23b0 : decide (0 ≤ a2) = true:=decide_eq_true c23;clear c23;have H':=O H;clear H
      go_wp2
      go_meet
      case rel=>exact ⟨_,(true),(y4_),H',⟨y5_⟩,⟨y6_ BK110⟩,⟨y3_ HI0 NB0_110⟩,⟨y7_ HK GW110⟩,⟨y8_ HB HI0 GE110⟩⟩
     ·rw [if_neg c23] at H;have c23b0 : decide (0 ≤ a2) = false:=decide_eq_false c23;clear c23
      by_cases c24 : t118 = 9
      ·rw [if_pos c24] at H;obtain ⟨c24b0,c24b1⟩:=eqT c24;clear c24;have H':=O H;clear H
       go_wp2
       go_meet
       case rel=>exact ⟨_,(decide (a2 < 0)),(y4_),H',⟨y5_⟩,⟨y6_ BK110⟩,⟨y3_ HI0 NB0_110⟩,⟨y7_ HK GW110⟩,⟨y8_ HB HI0 GE110⟩⟩
      ·rw [if_neg c24] at H;obtain ⟨c24b0,c24b1⟩:=eqF c24;have H':=O H;clear H
       go_wp2
       go_meet
       case rel=>exact ⟨_,(false),(y4_),H',⟨y5_⟩,⟨y6_ BK110⟩,⟨y3_ HI0 NB0_110⟩,⟨y7_ HK GW110⟩,⟨y8_ HB HI0 GE110⟩⟩
    ·rw [if_neg c22] at H;obtain ⟨c22b0,c22b1⟩:=eqF c22
     by_cases c25 : t118 = 9
     ·rw [if_pos c25] at H;obtain ⟨c25b0,c25b1⟩:=eqT c25;clear c25;have H':=O H;clear H
      go_wp2
      go_meet
      case rel=>exact ⟨_,(decide (a2 < 0)),(y4_),H',⟨y5_⟩,⟨y6_ BK110⟩,⟨y3_ HI0 NB0_110⟩,⟨y7_ HK GW110⟩,⟨y8_ HB HI0 GE110⟩⟩
     ·rw [if_neg c25] at H;obtain ⟨c25b0,c25b1⟩:=eqF c25;have H':=O H;clear H
      go_wp2
      go_meet
      case rel=>exact ⟨_,(false),(y4_),H',⟨y5_⟩,⟨y6_ BK110⟩,⟨y3_ HI0 NB0_110⟩,⟨y7_ HK GW110⟩,⟨y8_ HB HI0 GE110⟩⟩
  ·rw [if_neg c15] at H;have c15b0 : decide (a1 < 2) = false:=decide_eq_false c15;clear c15
   (first | rw [c15b0] | (simp only [i64_w,i32_w];rw [c15b0]) | skip)
   by_cases c26 : t118 = 8
   ·rw [if_pos c26] at H;obtain ⟨c26b0,c26b1⟩:=eqT c26;clear c26
    by_cases c27 : a2 ≥ 0
    ·rw [if_pos c27] at H;have c27b0 : decide (0 ≤ a2) = true:=decide_eq_true c27;clear c27;have H':=O H;clear H
     go_wp2
     go_meet
     case rel=>exact ⟨_,(true),(y4_),H',⟨y5_⟩,⟨y6_ BK110⟩,⟨y3_ HI0 NB0_110⟩,⟨y7_ HK GW110⟩,⟨y8_ HB HI0 GE110⟩⟩
    ·rw [if_neg c27] at H;have c27b0 : decide (0 ≤ a2) = false:=decide_eq_false c27;clear c27
     by_cases c28 : t118 = 9
     ·rw [if_pos c28] at H;obtain ⟨c28b0,c28b1⟩:=eqT c28;clear c28;have H':=O H;clear H
      go_wp2
      go_meet
      case rel=>exact ⟨_,(decide (a2 < 0)),(y4_),H',⟨y5_⟩,⟨y6_ BK110⟩,⟨y3_ HI0 NB0_110⟩,⟨y7_ HK GW110⟩,⟨y8_ HB HI0 GE110⟩⟩
     ·rw [if_neg c28] at H;obtain ⟨c28b0,c28b1⟩:=eqF c28;have H':=O H;clear H
      go_wp2
      go_meet
      case rel=>exact ⟨_,(false),(y4_),H',⟨y5_⟩,⟨y6_ BK110⟩,⟨y3_ HI0 NB0_110⟩,⟨y7_ HK GW110⟩,⟨y8_ HB HI0 GE110⟩⟩
   ·rw [if_neg c26] at H;obtain ⟨c26b0,c26b1⟩:=eqF c26
    by_cases c29 : t118 = 9
    ·rw [if_pos c29] at H;obtain ⟨c29b0,c29b1⟩:=eqT c29;clear c29;have H':=O H;clear H
     go_wp2
     go_meet
     case rel=>exact ⟨_,(decide (a2 < 0)),(y4_),H',⟨y5_⟩,⟨y6_ BK110⟩,⟨y3_ HI0 NB0_110⟩,⟨y7_ HK GW110⟩,⟨y8_ HB HI0 GE110⟩⟩
    ·rw [if_neg c29] at H;obtain ⟨c29b0,c29b1⟩:=eqF c29;have H':=O H;clear H
     go_wp2
     go_meet
     case rel=>exact ⟨_,(false),(y4_),H',⟨y5_⟩,⟨y6_ BK110⟩,⟨y3_ HI0 NB0_110⟩,⟨y7_ HK GW110⟩,⟨y8_ HB HI0 GE110⟩⟩
 case rest =>
  clear HC7;obtain ⟨kq,x44_6,rfl,HA,HJ6,BK110,HI0,HK,HB⟩:=hcut
  cases kq with
  | zero=>exact absurd HA.out (by simp [spec_l2Draw.j0])
  | succ kj6 =>
   have H:=HA.out;clear HA;simp only [spec_l2Draw.j0] at H;have HC30:=O H;clear H
   go_upto_if 44 with (fail)
   go_cut [9] (fun v9 wc=>∃ (kq : Nat) (x9_29 : Int) (x1001_29 : Int),v9 = .int .i64 x9_29 ∧ Aside0 (spec_l2Draw.j1 kq a1 a2 t111 t113 x9_29 s0_0 x1001_29 = some (r1,r2,r3,r4,r5,r6,r7)) ∧ Aside0 (kq ≤ kj6) ∧ Aside0 (wc.heap[gb110]? = some (.cells #[.int .i64 0,.int .i64 0,.int .i64 0,.int .i64 0,(.slice none 0 0),(.slice none 0 0)] 69 (0,0))) ∧ Aside0 (IsS53 w0 wc g s0_0 x1001_29) ∧ Aside0 (KeepBut w wc g none) ∧ Aside0 (Below w0.heap.size w0 wc))
   case first =>
    have H:=HC30.out;clear HC30
    by_cases c31 : x44_6 = true
    ·subst c31
     rw [if_pos rfl] at H;obtain ⟨y120,hy120⟩ : ∃ y_ : List Int,y_ = (([1,2,3,4,5] : List Int)):=⟨_,rfl⟩
     replace H : ((spec_l11Rd_num.f kj6 s0_0 t119 y120).bind fun bt123=>(spec_l2Draw.j1 kj6 a1 a2 t111 t113 bt123.1 s0_0 bt123.2)) = some (r1,r2,r3,r4,r5,r6,r7):=by first | (rw [hy120];with_reducible exact H) | (have H2_:=(E _ _).symm.trans H;rw [hy120];with_reducible exact H2_) | (have H2_:=(E _ _).symm.trans H;with_reducible exact H2_) | with_reducible exact H | (rw [hy120];exact H) | exact H
     have Ny120:=O hy120;clear hy120;replace H:=U.mp H;obtain ⟨⟨t123,t124⟩,A320,H⟩:=H;replace H : (spec_l2Draw.j1 kj6 a1 a2 t111 t113 t123 s0_0 t124) = some (r1,r2,r3,r4,r5,r6,r7):=H;have A32:=O A320;clear A320;have H':=O H;clear H
     go_wp2_with (first | ((with_reducible refine gate_dst (N:=46) rfl ?_);refine Kd.R_lit (Kd.int .i64) _ 3 ?hg (N:=46) ?hd (xs:=([1,2,3,4,5] : List Int)) (inner:=[.int .i64 1,.int .i64 2,.int .i64 3,.int .i64 4,.int .i64 5]) (ok:=fun _=>True) (okp:=fun _=>True) ?hr ?hp (fun _ hk=>hk) trivial (Below.refl _ _) (Nat.le_refl _) (by simp) ?_;(case hd=>rfl);(case hg=>rfl);(case hr=>first | (go_simp;done) | (go_simp;rfl));(case hp=>exact (Reps.one (show Kd.M (Kd.int .i64) _ _ _ 1 [.int .i64 1] from rfl) (Reps.one (show Kd.M (Kd.int .i64) _ _ _ 2 [.int .i64 2] from rfl) (Reps.one (show Kd.M (Kd.int .i64) _ _ _ 3 [.int .i64 3] from rfl) (Reps.one (show Kd.M (Kd.int .i64) _ _ _ 4 [.int .i64 4] from rfl) (Reps.one (show Kd.M (Kd.int .i64) _ _ _ 5 [.int .i64 5] from rfl) (Reps.none _ _)))))));intro v121 w33 ho34 hb hg_ hnew_;clear hg_ hnew_;(first | rw [← Ny120.out] at ho34 | (simp only [Int.reduceToNat] at ho34;rw [← Ny120.out] at ho34));have n0_:=ap5 (Kd.R_lower ho34 (keep_size (w:=w) (g:=g) (row:=none) (q7_ HK GW110))) (blk_below (g:=gb110) (o:=.cells #[.int .i64 0,.int .i64 0,.int .i64 0,.int .i64 0,.slice none 0 0,.slice none 0 0] 69 (0,0)) (q6_ BK110) hb) (IsS53.below (q4_ HI0 NB0_110) hb) (J (q7_ HK GW110) (KeepBut.of_below hb g none) (.inl rfl)) (below_step (q5_ HB HI0 GE110) hb);clear BK110 HI0 HK HB;obtain ⟨HO122,BK110,HI0,HK,HB⟩:=n0_;clear hb ho34;obtain ⟨Ao35,co35,eo35⟩:=Kd.R_slice HO122.out;subst eo35) | ((with_reducible refine Y (f:=27) rfl ?_);refine goesM_ (some 47) Try.func27 #[.pointer (some ⟨g,0,none⟩),.slice Ao35 y120.length co35] ?_;(with_reducible refine (spec_l11Rd_num.calls kj6 g s0_0 t119 _ _ y120 t123 t124 w0 _ ?side1 ?side2 ?side3 ?side4 ?side5 A32.out).mono ?_);(case side1=>exact q4_ HI0 NB0_110);(case side2=>exact q5_ HB HI0 GE110);(case side3=>exact y2_ HO122);(case side4=>exact (Kd.R_reads' HO122.out).2.1);(case side5=>exact far_slice (IsS53.own_ne HI0.out HO122.out (by decide)));rintro e w36 ⟨rfl,hi,hb,hk⟩;refine ⟨_,rfl,?_⟩;have n0_:=ap5 (KeepBut.blk hk (g':=gb110) (o:=.cells #[.int .i64 0,.int .i64 0,.int .i64 0,.int .i64 0,.slice none 0 0,.slice none 0 0] 69 (0,0)) (q6_ BK110) NB110_0.out (by simp)) (Kd.R_mono (Kd.R_keep (IsS53.apart (show IsS53 w0 _ g s0_0 t119 from y3_ HI0 NB0_110) (q8_ HO122) (by decide)) hk (fun _ h=>h.2)) (fun _ h=>h.1)) (J (q7_ HK GW110) hk (.inl rfl)) (hb) (hi);clear BK110 HO122 HK HB HI0;obtain ⟨BK110,HO122,HK,HB,HI0⟩:=n0_;(try clear hb);(try clear hk);(try clear hi)))
     go_meet
     case rel=>exact ⟨_,(t123),(t124),(y4_),H',⟨by have:=HJ6.out;first | omega | exact Nat.le_refl _⟩,⟨y6_ BK110⟩,⟨y3_ HI0 NB0_110⟩,⟨y7_ HK GW110⟩,⟨y8_ HB HI0 GE110⟩⟩
    ·replace c31:=Bool.eq_false_iff.mpr c31;subst c31
     rw [if_neg (show ¬ (false = true) by decide)] at H;have H':=O H;clear H
     go_wp2
     go_meet
     case rel=>exact ⟨_,(t118),(t119),(y4_),H',⟨by have:=HJ6.out;first | omega | exact Nat.le_refl _⟩,⟨y6_ BK110⟩,⟨y3_ HI0 NB0_110⟩,⟨y7_ HK GW110⟩,⟨y8_ HB HI0 GE110⟩⟩
   case rest =>
    clear HC30;obtain ⟨kq,x9_29,x1001_29,rfl,HA,HJ29,BK110,HI0,HK,HB⟩:=hcut
    cases kq with
    | zero=>exact absurd HA.out (by simp [spec_l2Draw.j1])
    | succ kj29 =>
     have H:=HA.out;clear HA;simp only [spec_l2Draw.j1] at H
     by_cases c37 : x9_29 = 1
     ·rw [if_pos c37] at H;obtain ⟨c37b0,c37b1⟩:=eqT c37;clear c37;obtain ⟨y125,hy125⟩ : ∃ y_ : List Int,y_ = (([0,1,2,3,(-1),5] : List Int)):=⟨_,rfl⟩
      replace H : ((spec_l11Rd_num.f kj29 s0_0 x1001_29 y125).bind fun bt128=>(some (x9_29,t111,0,bt128.1,([] : List (S69)),([] : List (S69)),bt128.2))) = some (r1,r2,r3,r4,r5,r6,r7):=by first | (rw [hy125];with_reducible exact H) | (have H2_:=(E _ _).symm.trans H;rw [hy125];with_reducible exact H2_) | (have H2_:=(E _ _).symm.trans H;with_reducible exact H2_) | with_reducible exact H | (rw [hy125];exact H) | exact H
      have Ny125:=O hy125;clear hy125;replace H:=U.mp H;obtain ⟨⟨t128,t129⟩,A380,H⟩:=H;replace H : (some (x9_29,t111,0,t128,([] : List (S69)),([] : List (S69)),t129)) = some (r1,r2,r3,r4,r5,r6,r7):=H;have A38:=O A380;clear A380;simp only [Option.some.injEq,Prod.mk.injEq] at H;obtain ⟨rfl,rfl,rfl,rfl,rfl,rfl,rfl⟩:=H
      go_wp2_with (first | ((with_reducible refine gate_dst (N:=54) rfl ?_);refine Kd.R_lit (Kd.int .i64) _ 3 ?hg (N:=54) ?hd (xs:=([0,1,2,3,(-1),5] : List Int)) (inner:=[.int .i64 0,.int .i64 1,.int .i64 2,.int .i64 3,.int .i64 (-1),.int .i64 5]) (ok:=fun _=>True) (okp:=fun _=>True) ?hr ?hp (fun _ hk=>hk) trivial (Below.refl _ _) (Nat.le_refl _) (by simp) ?_;(case hd=>rfl);(case hg=>rfl);(case hr=>first | (go_simp;done) | (go_simp;rfl));(case hp=>exact (Reps.one (show Kd.M (Kd.int .i64) _ _ _ 0 [.int .i64 0] from rfl) (Reps.one (show Kd.M (Kd.int .i64) _ _ _ 1 [.int .i64 1] from rfl) (Reps.one (show Kd.M (Kd.int .i64) _ _ _ 2 [.int .i64 2] from rfl) (Reps.one (show Kd.M (Kd.int .i64) _ _ _ 3 [.int .i64 3] from rfl) (Reps.one (show Kd.M (Kd.int .i64) _ _ _ (-1) [.int .i64 (-1)] from rfl) (Reps.one (show Kd.M (Kd.int .i64) _ _ _ 5 [.int .i64 5] from rfl) (Reps.none _ _))))))));intro v126 w39 ho40 hb hg_ hnew_;clear hg_ hnew_;(first | rw [← Ny125.out] at ho40 | (simp only [Int.reduceToNat] at ho40;rw [← Ny125.out] at ho40));have n0_:=ap5 (Kd.R_lower ho40 (keep_size (w:=w) (g:=g) (row:=none) (q7_ HK GW110))) (blk_below (g:=gb110) (o:=.cells #[.int .i64 0,.int .i64 0,.int .i64 0,.int .i64 0,.slice none 0 0,.slice none 0 0] 69 (0,0)) (q6_ BK110) hb) (IsS53.below (q4_ HI0 NB0_110) hb) (J (q7_ HK GW110) (KeepBut.of_below hb g none) (.inl rfl)) (below_step (q5_ HB HI0 GE110) hb);clear BK110 HI0 HK HB;obtain ⟨HO127,BK110,HI0,HK,HB⟩:=n0_;clear hb ho40;obtain ⟨Ao41,co41,eo41⟩:=Kd.R_slice HO127.out;subst eo41) | ((with_reducible refine Y (f:=27) rfl ?_);refine goesM_ (some 55) Try.func27 #[.pointer (some ⟨g,0,none⟩),.slice Ao41 y125.length co41] ?_;(with_reducible refine (spec_l11Rd_num.calls kj29 g s0_0 x1001_29 _ _ y125 t128 t129 w0 _ ?side1 ?side2 ?side3 ?side4 ?side5 A38.out).mono ?_);(case side1=>exact q4_ HI0 NB0_110);(case side2=>exact q5_ HB HI0 GE110);(case side3=>exact y2_ HO127);(case side4=>exact (Kd.R_reads' HO127.out).2.1);(case side5=>exact far_slice (IsS53.own_ne HI0.out HO127.out (by decide)));rintro e w42 ⟨rfl,hi,hb,hk⟩;refine ⟨_,rfl,?_⟩;have n0_:=ap5 (KeepBut.blk hk (g':=gb110) (o:=.cells #[.int .i64 0,.int .i64 0,.int .i64 0,.int .i64 0,.slice none 0 0,.slice none 0 0] 69 (0,0)) (q6_ BK110) NB110_0.out (by simp)) (Kd.R_mono (Kd.R_keep (IsS53.apart (show IsS53 w0 _ g s0_0 x1001_29 from y3_ HI0 NB0_110) (q8_ HO127) (by decide)) hk (fun _ h=>h.2)) (fun _ h=>h.1)) (J (q7_ HK GW110) hk (.inl rfl)) (hb) (hi);clear BK110 HO127 HK HB HI0;obtain ⟨BK110,HO127,HK,HB,HI0⟩:=n0_;(try clear hb);(try clear hk);(try clear hi);have hnb43:=NB110_0.out;have hnc43:=NB0_110.out;obtain ⟨hcz44_0,hcz44_1,hcz44_2,hcz44_3,hcz44_4,hcz44_5,hfz44_0,hfz44_1,hfz44_2,hfz44_3,hfz44_4,hfz44_5⟩:=bz6_ BK110))
      refine bodyPost_ret (results_cell_row rfl _ _ gb110 69 #[.int .i64 x9_29,.int .i64 t111,.int .i64 0,.int .i64 t128,.slice none 0 0,.slice none 0 0] (0,0) _ rfl (q9_ BK110) Try.underlying69 rfl (by kernel_rfl)) rfl ?_
      exact ⟨_,_,y9_,y10_,y10_,y3_ HI0 NB0_110,y8_ HB HI0 GE110,y7_ HK GW110⟩
     ·rw [if_neg c37] at H;obtain ⟨c37b0,c37b1⟩:=eqF c37
      by_cases c45 : x9_29 = 2
      ·rw [if_pos c45] at H;obtain ⟨c45b0,c45b1⟩:=eqT c45;clear c45;replace H:=U.mp H;obtain ⟨⟨t130,t131⟩,A460,H⟩:=H;replace H : (some (x9_29,t111,t113,wrap64 (1 + t130),([] : List (S69)),([] : List (S69)),t131)) = some (r1,r2,r3,r4,r5,r6,r7):=H;have A46:=O A460;clear A460;simp only [Option.some.injEq,Prod.mk.injEq] at H;obtain ⟨rfl,rfl,rfl,rfl,rfl,rfl,rfl⟩:=H
       go_wp2_with (first | ((with_reducible refine Y (f:=16) rfl ?_);refine goesM_ (some 63) Try.func16 #[.pointer (some ⟨g,0,none⟩),.int .i64 5] ?_;(with_reducible refine (spec_l11Rd_pick.calls kj29 g s0_0 x1001_29 5 t130 t131 w0 _ ?side1 ?side2 A46.out).mono ?_);(case side1=>exact q4_ HI0 NB0_110);(case side2=>exact q5_ HB HI0 GE110);rintro e w47 ⟨rfl,hi,hb,hk⟩;refine ⟨_,rfl,?_⟩;have n0_:=ap4 (KeepBut.blk hk (g':=gb110) (o:=.cells #[.int .i64 0,.int .i64 0,.int .i64 0,.int .i64 0,.slice none 0 0,.slice none 0 0] 69 (0,0)) (q6_ BK110) NB110_0.out (by simp)) (J (q7_ HK GW110) hk (.inl rfl)) (hb) (hi);clear BK110 HK HB HI0;obtain ⟨BK110,HK,HB,HI0⟩:=n0_;(try clear hb);(try clear hk);(try clear hi);have hnb48:=NB110_0.out;have hnc48:=NB0_110.out;obtain ⟨hcz49_0,hcz49_1,hcz49_2,hcz49_3,hcz49_4,hcz49_5,hfz49_0,hfz49_1,hfz49_2,hfz49_3,hfz49_4,hfz49_5⟩:=bz6_ BK110))
       refine bodyPost_ret (results_cell_row rfl _ _ gb110 69 #[.int .i64 x9_29,.int .i64 t111,.int .i64 t113,.int .i64 (wrap64 (1 + t130)),.slice none 0 0,.slice none 0 0] (0,0) _ rfl (q9_ BK110) Try.underlying69 rfl (by kernel_rfl)) rfl ?_
       exact ⟨_,_,y9_,y10_,y10_,y3_ HI0 NB0_110,y8_ HB HI0 GE110,y7_ HK GW110⟩
      ·rw [if_neg c45] at H;obtain ⟨c45b0,c45b1⟩:=eqF c45;have HC50:=O H;clear H
       go_upto_if 66 with (fail)
       go_cut [66] (fun v66 wc=>∃ (kq : Nat) (x66_49 : Bool),v66 = .bool x66_49 ∧ Aside0 (spec_l2Draw.j2 kq a1 a2 t111 t113 x9_29 x9_29 x66_49 s0_0 x1001_29 = some (r1,r2,r3,r4,r5,r6,r7)) ∧ Aside0 (kq ≤ kj29) ∧ Aside0 (wc.heap[gb110]? = some (.cells #[.int .i64 0,.int .i64 0,.int .i64 0,.int .i64 0,(.slice none 0 0),(.slice none 0 0)] 69 (0,0))) ∧ Aside0 (IsS53 w0 wc g s0_0 x1001_29) ∧ Aside0 (KeepBut w wc g none) ∧ Aside0 (Below w0.heap.size w0 wc))
       case first =>
        have H:=HC50.out;clear HC50
        by_cases c51 : x9_29 = 3
        ·rw [if_pos c51] at H;obtain ⟨c51b0,c51b1⟩:=eqT c51;clear c51
         (first | rw [c51b0] | (simp only [i64_w,i32_w];rw [c51b0]) | skip)
         have H':=O H;clear H
         go_wp2
         go_meet
         case rel=>exact ⟨_,((x9_29 == 3)),(y4_),H',⟨by have:=HJ6.out;have:=HJ29.out;first | omega | exact Nat.le_refl _⟩,⟨y6_ BK110⟩,⟨y3_ HI0 NB0_110⟩,⟨y7_ HK GW110⟩,⟨y8_ HB HI0 GE110⟩⟩
        ·rw [if_neg c51] at H;obtain ⟨c51b0,c51b1⟩:=eqF c51
         (first | rw [c51b0] | (simp only [i64_w,i32_w];rw [c51b0]) | skip)
         have H':=O H;clear H
         go_wp2
         go_meet
         case rel=>exact ⟨_,((x9_29 == 4)),(y4_),H',⟨by have:=HJ6.out;have:=HJ29.out;first | omega | exact Nat.le_refl _⟩,⟨y6_ BK110⟩,⟨y3_ HI0 NB0_110⟩,⟨y7_ HK GW110⟩,⟨y8_ HB HI0 GE110⟩⟩
       case rest =>
        clear HC50;(try clear c37);(try clear c37b0);(try clear c37b1);(try clear c45);(try clear c45b0);(try clear c45b1);obtain ⟨kq,x66_49,rfl,HA,HJ49,BK110,HI0,HK,HB⟩:=hcut
        cases kq with
        | zero=>exact absurd HA.out (by simp [spec_l2Draw.j2])
        | succ kj49 =>
         have H:=HA.out;clear HA;simp only [spec_l2Draw.j2] at H
         by_cases c52 : x66_49 = true
         ·subst c52
          rw [if_pos rfl] at H;simp only [Option.some.injEq,Prod.mk.injEq] at H;obtain ⟨rfl,rfl,rfl,rfl,rfl,rfl,rfl⟩:=H;have hnb53:=NB110_0.out;have hnc53:=NB0_110.out;obtain ⟨hcz54_0,hcz54_1,hcz54_2,hcz54_3,hcz54_4,hcz54_5,hfz54_0,hfz54_1,hfz54_2,hfz54_3,hfz54_4,hfz54_5⟩:=bz6_ BK110
          go_wp2
          refine bodyPost_ret (results_cell_row rfl _ _ gb110 69 #[.int .i64 x9_29,.int .i64 t111,.int .i64 t113,.int .i64 0,.slice none 0 0,.slice none 0 0] (0,0) _ rfl (q9_ BK110) Try.underlying69 rfl (by kernel_rfl)) rfl ?_
          exact ⟨_,_,y9_,y10_,y10_,y3_ HI0 NB0_110,y8_ HB HI0 GE110,y7_ HK GW110⟩
         ·replace c52:=Bool.eq_false_iff.mpr c52;subst c52
          rw [if_neg (show ¬ (false = true) by decide)] at H
          by_cases c55 : x9_29 = 5
          ·rw [if_pos c55] at H;obtain ⟨c55b0,c55b1⟩:=eqT c55;clear c55;simp only [Option.some.injEq,Prod.mk.injEq] at H;obtain ⟨rfl,rfl,rfl,rfl,rfl,rfl,rfl⟩:=H;have hnb56:=NB110_0.out;have hnc56:=NB0_110.out;obtain ⟨hcz57_0,hcz57_1,hcz57_2,hcz57_3,hcz57_4,hcz57_5,hfz57_0,hfz57_1,hfz57_2,hfz57_3,hfz57_4,hfz57_5⟩:=bz6_ BK110
           go_wp2
           refine bodyPost_ret (results_cell_row rfl _ _ gb110 69 #[.int .i64 x9_29,.int .i64 t111,.int .i64 0,.int .i64 0,.slice none 0 0,.slice none 0 0] (0,0) _ rfl (q9_ BK110) Try.underlying69 rfl (by kernel_rfl)) rfl ?_
           exact ⟨_,_,y9_,y10_,y10_,y3_ HI0 NB0_110,y8_ HB HI0 GE110,y7_ HK GW110⟩
          ·rw [if_neg c55] at H;obtain ⟨c55b0,c55b1⟩:=eqF c55
           by_cases c58 : x9_29 = 6
           ·rw [if_pos c58] at H;obtain ⟨c58b0,c58b1⟩:=eqT c58;clear c58;replace H:=U.mp H;obtain ⟨⟨t132,t135⟩,A590,H⟩:=H;replace H : ((spec_l2Draws.f kj49 s0_0 t135 (wrap64 (a1 - 1)) a2 2).bind fun bt136=>(some (x9_29,t111,0,0,t132,bt136.1,bt136.2))) = some (r1,r2,r3,r4,r5,r6,r7):=H;have A59:=O A590;clear A590;replace H:=U.mp H;obtain ⟨⟨t136,t139⟩,A600,H⟩:=H;replace H : (some (x9_29,t111,0,0,t132,t136,t139)) = some (r1,r2,r3,r4,r5,r6,r7):=H;have A60:=O A600;clear A600;simp only [Option.some.injEq,Prod.mk.injEq] at H;obtain ⟨rfl,rfl,rfl,rfl,rfl,rfl,rfl⟩:=H
            go_wp2_with (first | ((with_reducible refine Y (f:=49) rfl ?_);refine goesM_ (some 86) Try.func49 #[.pointer (some ⟨g,0,none⟩),.int .i64 (wrap64 (a1 - 1)),.int .i64 a2,.int .i64 2] ?_;(with_reducible refine (ih_spec_l2Draws kj49 (by have:=HJ6.out;have:=HJ29.out;have:=HJ49.out;omega) g s0_0 x1001_29 (wrap64 (a1 - 1)) a2 2 t132 t135 w0 _ ?side1 ?side2 A59.out).mono ?_);(case side1=>exact q4_ HI0 NB0_110);(case side2=>exact q5_ HB HI0 GE110);rintro e w61 ⟨v133,rfl,ho0,hi,hb,hk⟩;refine ⟨_,rfl,?_⟩;have n0_:=ap5 (KeepBut.blk hk (g':=gb110) (o:=.cells #[.int .i64 0,.int .i64 0,.int .i64 0,.int .i64 0,.slice none 0 0,.slice none 0 0] 69 (0,0)) (q6_ BK110) NB110_0.out (by simp)) (Kd.R_lower (Kd.R_newB ho0 (g:=gb110) (o:=.cells #[.int .i64 0,.int .i64 0,.int .i64 0,.int .i64 0,.slice none 0 0,.slice none 0 0] 69 (0,0)) (q6_ BK110)) (keep_size (w:=w) (g:=g) (row:=none) (q7_ HK GW110))) (J (q7_ HK GW110) hk (.inl rfl)) (hb) (hi);clear BK110 HK HB HI0;obtain ⟨BK110,HO134,HK,HB,HI0⟩:=n0_;(try clear hb);(try clear hk);(try clear hi);(try clear ho0)) | ((with_reducible refine Y (f:=49) rfl ?_);refine goesM_ (some 91) Try.func49 #[.pointer (some ⟨g,0,none⟩),.int .i64 (wrap64 (a1 - 1)),.int .i64 a2,.int .i64 2] ?_;(with_reducible refine (ih_spec_l2Draws kj49 (by have:=HJ6.out;have:=HJ29.out;have:=HJ49.out;omega) g s0_0 t135 (wrap64 (a1 - 1)) a2 2 t136 t139 w0 _ ?side1 ?side2 A60.out).mono ?_);(case side1=>exact q4_ HI0 NB0_110);(case side2=>exact q5_ HB HI0 GE110);rintro e w62 ⟨v137,rfl,ho0,hi,hb,hk⟩;refine ⟨_,rfl,?_⟩;have n0_:=ap6 (KeepBut.blk hk (g':=gb110) (o:=.cells #[.int .i64 0,.int .i64 0,.int .i64 0,.int .i64 0,.slice none 0 0,.slice none 0 0] 69 (0,0)) (q6_ BK110) NB110_0.out (by simp)) (Kd.R_mono (Kd.R_told (Kd.R_oldK (IsS53.apart (show IsS53 w0 _ g s0_0 t135 from y3_ HI0 NB0_110) (q8_ HO134) (by decide)) hk) (Kd.R_base ho0)) (fun _ h_=>h_.1)) (Kd.R_lower (Kd.R_newB (Kd.R_new' ho0 (Kd.R_lt (q8_ HO134))) (g:=gb110) (o:=.cells #[.int .i64 0,.int .i64 0,.int .i64 0,.int .i64 0,.slice none 0 0,.slice none 0 0] 69 (0,0)) (q6_ BK110)) (keep_size (w:=w) (g:=g) (row:=none) (q7_ HK GW110))) (J (q7_ HK GW110) hk (.inl rfl)) (hb) (hi);clear BK110 HO134 HK HB HI0;obtain ⟨BK110,HO134,HO138,HK,HB,HI0⟩:=n0_;(try clear hb);(try clear hk);(try clear hi);(try clear ho0);obtain ⟨Ao63,co63,eo63⟩:=Kd.R_slice HO138.out;subst eo63;obtain ⟨Ao64,co64,eo64⟩:=Kd.R_slice HO134.out;subst eo64;have hnb65:=NB110_0.out;have hnc65:=NB0_110.out;obtain ⟨hcz66_0,hcz66_1,hcz66_2,hcz66_3,hcz66_4,hcz66_5,hfz66_0,hfz66_1,hfz66_2,hfz66_3,hfz66_4,hfz66_5⟩:=bz6_ BK110))
            refine bodyPost_ret (results_cell_row rfl _ _ gb110 69 #[.int .i64 x9_29,.int .i64 t111,.int .i64 0,.int .i64 0,.slice Ao64 t132.length co64,.slice Ao63 t136.length co63] (0,0) _ rfl (q9_ BK110) Try.underlying69 rfl (by kernel_rfl)) rfl ?_
            exact ⟨_,_,y9_,by (with_reducible repeat (first | apply Kd.R_alloc | apply Kd.R_drewN | apply Kd.R_drew));exact Kd.R_mono (Kd.R_far (p:=⟨gb110,5,none⟩) (Kd.R_far (p:=⟨gb110,4,none⟩) (Kd.R_far (p:=⟨gb110,3,none⟩) (Kd.R_far (p:=⟨gb110,2,none⟩) (Kd.R_far (p:=⟨gb110,1,none⟩) (Kd.R_far (p:=⟨gb110,0,none⟩) (Kd.R_mono HO134.out (fun k_ hk=>(⟨hk,hk.1.2⟩ : _ ∧ k_ ≠ gb110))) (fun _ hk=>hk.2) (.int .i64 x9_29)) (fun _ hk=>hk.2) (.int .i64 t111)) (fun _ hk=>hk.2) (.int .i64 0)) (fun _ hk=>hk.2) (.int .i64 0)) (fun _ hk=>hk.2) (.slice Ao64 t132.length co64)) (fun _ hk=>hk.2) (.slice Ao63 t136.length co63)) (fun _ hk=>hk.1.2),by (with_reducible repeat (first | apply Kd.R_alloc | apply Kd.R_drewN | apply Kd.R_drew));exact Kd.R_mono (Kd.R_far (p:=⟨gb110,5,none⟩) (Kd.R_far (p:=⟨gb110,4,none⟩) (Kd.R_far (p:=⟨gb110,3,none⟩) (Kd.R_far (p:=⟨gb110,2,none⟩) (Kd.R_far (p:=⟨gb110,1,none⟩) (Kd.R_far (p:=⟨gb110,0,none⟩) (Kd.R_mono HO138.out (fun k_ hk=>(⟨hk,hk.2⟩ : _ ∧ k_ ≠ gb110))) (fun _ hk=>hk.2) (.int .i64 x9_29)) (fun _ hk=>hk.2) (.int .i64 t111)) (fun _ hk=>hk.2) (.int .i64 0)) (fun _ hk=>hk.2) (.int .i64 0)) (fun _ hk=>hk.2) (.slice Ao64 t132.length co64)) (fun _ hk=>hk.2) (.slice Ao63 t136.length co63)) (fun _ hk=>hk.1.1.2),y3_ HI0 NB0_110,y8_ HB HI0 GE110,y7_ HK GW110⟩
           ·rw [if_neg c58] at H;obtain ⟨c58b0,c58b1⟩:=eqF c58
            by_cases c67 : x9_29 = 7
            ·rw [if_pos c67] at H;obtain ⟨c67b0,c67b1⟩:=eqT c67;clear c67;replace H:=U.mp H;obtain ⟨⟨t140,t143⟩,A680,H⟩:=H;replace H : ((spec_l11Rd_num.f kj49 s0_0 t143 (([0,0,0,0,0,1] : List Int))).bind fun bt147=>(if t140.length < 1759218604441 then (some (x9_29,t111,0,0,(t140 ++ [(⟨1,t111,0,bt147.1,([] : List (S69)),([] : List (S69))⟩ : S69)]),([] : List (S69)),bt147.2)) else (none))) = some (r1,r2,r3,r4,r5,r6,r7):=H;have A68:=O A680;clear A680;obtain ⟨y144,hy144⟩ : ∃ y_ : List Int,y_ = (([0,0,0,0,0,1] : List Int)):=⟨_,rfl⟩
             replace H : ((spec_l11Rd_num.f kj49 s0_0 t143 y144).bind fun bt147=>(if t140.length < 1759218604441 then (some (x9_29,t111,0,0,(t140 ++ [(⟨1,t111,0,bt147.1,([] : List (S69)),([] : List (S69))⟩ : S69)]),([] : List (S69)),bt147.2)) else (none))) = some (r1,r2,r3,r4,r5,r6,r7):=by first | (rw [hy144];with_reducible exact H) | (have H2_:=(E _ _).symm.trans H;rw [hy144];with_reducible exact H2_) | (have H2_:=(E _ _).symm.trans H;with_reducible exact H2_) | with_reducible exact H | (rw [hy144];exact H) | exact H
             have Ny144:=O hy144;clear hy144;replace H:=U.mp H;obtain ⟨⟨t147,t148⟩,A690,H⟩:=H;replace H : (if t140.length < 1759218604441 then (some (x9_29,t111,0,0,(t140 ++ [(⟨1,t111,0,t147,([] : List (S69)),([] : List (S69))⟩ : S69)]),([] : List (S69)),t148)) else (none)) = some (r1,r2,r3,r4,r5,r6,r7):=H;have A69:=O A690;clear A690
             by_cases c70 : t140.length < 1759218604441
             ·rw [if_pos c70] at H;have LMc70:=O c70;clear c70;obtain ⟨y149,hy149⟩ : ∃ y_ : List (S69),y_ = (t140 ++ [(⟨1,t111,0,t147,([] : List (S69)),([] : List (S69))⟩ : S69)]):=⟨_,rfl⟩
              replace H : (some (x9_29,t111,0,0,y149,([] : List (S69)),t148)) = some (r1,r2,r3,r4,r5,r6,r7):=by first | (rw [hy149];with_reducible exact H) | (have H2_:=(E _ _).symm.trans H;rw [hy149];with_reducible exact H2_) | (have H2_:=(E _ _).symm.trans H;with_reducible exact H2_) | with_reducible exact H | (rw [hy149];exact H) | exact H
              have Ny149:=O hy149;clear hy149;simp only [Option.some.injEq,Prod.mk.injEq] at H;obtain ⟨rfl,rfl,rfl,rfl,rfl,rfl,rfl⟩:=H
              go_wp2_with (first | ((with_reducible refine Y (f:=49) rfl ?_);refine goesM_ (some 99) Try.func49 #[.pointer (some ⟨g,0,none⟩),.int .i64 (wrap64 (a1 - 1)),.int .i64 a2,.int .i64 2] ?_;(with_reducible refine (ih_spec_l2Draws kj49 (by have:=HJ6.out;have:=HJ29.out;have:=HJ49.out;omega) g s0_0 x1001_29 (wrap64 (a1 - 1)) a2 2 t140 t143 w0 _ ?side1 ?side2 A68.out).mono ?_);(case side1=>exact q4_ HI0 NB0_110);(case side2=>exact q5_ HB HI0 GE110);rintro e w71 ⟨v141,rfl,ho0,hi,hb,hk⟩;refine ⟨_,rfl,?_⟩;have n0_:=ap5 (KeepBut.blk hk (g':=gb110) (o:=.cells #[.int .i64 0,.int .i64 0,.int .i64 0,.int .i64 0,.slice none 0 0,.slice none 0 0] 69 (0,0)) (q6_ BK110) NB110_0.out (by simp)) (Kd.R_lower (Kd.R_newB ho0 (g:=gb110) (o:=.cells #[.int .i64 0,.int .i64 0,.int .i64 0,.int .i64 0,.slice none 0 0,.slice none 0 0] 69 (0,0)) (q6_ BK110)) (keep_size (w:=w) (g:=g) (row:=none) (q7_ HK GW110))) (J (q7_ HK GW110) hk (.inl rfl)) (hb) (hi);clear BK110 HK HB HI0;obtain ⟨BK110,HO142,HK,HB,HI0⟩:=n0_;(try clear hb);(try clear hk);(try clear hi);(try clear ho0)) | ((with_reducible refine gate_dst (N:=102) rfl ?_);refine Kd.R_lit (Kd.int .i64) _ 3 ?hg (N:=102) ?hd (xs:=([0,0,0,0,0,1] : List Int)) (inner:=[.int .i64 0,.int .i64 0,.int .i64 0,.int .i64 0,.int .i64 0,.int .i64 1]) (ok:=fun _=>True) (okp:=fun _=>True) ?hr ?hp (fun _ hk=>hk) trivial (Below.refl _ _) (Nat.le_refl _) (by simp) ?_;(case hd=>rfl);(case hg=>rfl);(case hr=>first | (go_simp;done) | (go_simp;rfl));(case hp=>exact (Reps.one (show Kd.M (Kd.int .i64) _ _ _ 0 [.int .i64 0] from rfl) (Reps.one (show Kd.M (Kd.int .i64) _ _ _ 0 [.int .i64 0] from rfl) (Reps.one (show Kd.M (Kd.int .i64) _ _ _ 0 [.int .i64 0] from rfl) (Reps.one (show Kd.M (Kd.int .i64) _ _ _ 0 [.int .i64 0] from rfl) (Reps.one (show Kd.M (Kd.int .i64) _ _ _ 0 [.int .i64 0] from rfl) (Reps.one (show Kd.M (Kd.int .i64) _ _ _ 1 [.int .i64 1] from rfl) (Reps.none _ _))))))));intro v145 w72 ho73 hb hg_ hnew_;clear hg_ hnew_;(first | rw [← Ny144.out] at ho73 | (simp only [Int.reduceToNat] at ho73;rw [← Ny144.out] at ho73));have n0_:=ap6 (Kd.R_below (q8_ HO142) hb) (Kd.R_lower ho73 (keep_size (w:=w) (g:=g) (row:=none) (q7_ HK GW110))) (blk_below (g:=gb110) (o:=.cells #[.int .i64 0,.int .i64 0,.int .i64 0,.int .i64 0,.slice none 0 0,.slice none 0 0] 69 (0,0)) (q6_ BK110) hb) (IsS53.below (q4_ HI0 NB0_110) hb) (J (q7_ HK GW110) (KeepBut.of_below hb g none) (.inl rfl)) (below_step (q5_ HB HI0 GE110) hb);clear HO142 BK110 HI0 HK HB;obtain ⟨HO142,HO146,BK110,HI0,HK,HB⟩:=n0_;clear hb ho73;obtain ⟨Ao74,co74,eo74⟩:=Kd.R_slice HO146.out;subst eo74) | ((with_reducible refine Y (f:=27) rfl ?_);refine goesM_ (some 103) Try.func27 #[.pointer (some ⟨g,0,none⟩),.slice Ao74 y144.length co74] ?_;(with_reducible refine (spec_l11Rd_num.calls kj49 g s0_0 t143 _ _ y144 t147 t148 w0 _ ?side1 ?side2 ?side3 ?side4 ?side5 A69.out).mono ?_);(case side1=>exact q4_ HI0 NB0_110);(case side2=>exact q5_ HB HI0 GE110);(case side3=>exact y2_ HO146);(case side4=>exact (Kd.R_reads' HO146.out).2.1);(case side5=>exact far_slice (IsS53.own_ne HI0.out HO146.out (by decide)));rintro e w75 ⟨rfl,hi,hb,hk⟩;refine ⟨_,rfl,?_⟩;have n0_:=ap6 (KeepBut.blk hk (g':=gb110) (o:=.cells #[.int .i64 0,.int .i64 0,.int .i64 0,.int .i64 0,.slice none 0 0,.slice none 0 0] 69 (0,0)) (q6_ BK110) NB110_0.out (by simp)) (Kd.R_mono (Kd.R_keep (IsS53.apart (show IsS53 w0 _ g s0_0 t143 from y3_ HI0 NB0_110) (q8_ HO142) (by decide)) hk (fun _ h=>h.2)) (fun _ h=>h.1)) (Kd.R_mono (Kd.R_keep (IsS53.apart (show IsS53 w0 _ g s0_0 t143 from y3_ HI0 NB0_110) (q8_ HO146) (by decide)) hk (fun _ h=>h.2)) (fun _ h=>h.1)) (J (q7_ HK GW110) hk (.inl rfl)) (hb) (hi);clear BK110 HO142 HO146 HK HB HI0;obtain ⟨BK110,HO142,HO146,HK,HB,HI0⟩:=n0_;(try clear hb);(try clear hk);(try clear hi)) | ((with_reducible refine gate_builtin (b:=.append) (xs:=#[.tmp 99,.tmp 105]) rfl ?_);at_builtin;refine Kd.R_append k69 w.heap.size rfl (.tmp 99) (.tmp 105) 49 69 (.agg #[(.int .i64 0),(.int .i64 0),(.int .i64 0),(.int .i64 0),(.slice none 0 0),(.slice none 0 0)]) 80 rfl Try.underlying49 info69 rfl (by decide) (by omega) v141 t140 (⟨1,t111,0,t147,([] : List (S69)),([] : List (S69))⟩ : S69) [.int .i64 1,.int .i64 t111,.int .i64 0,.int .i64 t147,.slice none 0 0,.slice none 0 0] (fun k_=>k_ ≠ gb110) (fun k_=>((fun k_=>k_ ≠ gb110)) k_ ∧ some k_ ≠ (v141 : Value).ownBlock) rfl rfl ?aP (fun _ hk=>hk) ?aF ?aO (Below.refl _ _) ?aS ?aL ?_;(case aP=>exact k69_mkM _ _ _ (⟨1,t111,0,t147,([] : List (S69)),([] : List (S69))⟩ : S69) (Kd.R_nil _ _ _ _ _) (Kd.R_nil _ _ _ _ _));(case aF=>exact (fun k_ hk=>Kd.freshB (g:=gb110) (o:=.cells #[.int .i64 0,.int .i64 0,.int .i64 0,.int .i64 0,.slice none 0 0,.slice none 0 0] 69 (0,0)) (q6_ BK110) k_ hk));(case aO=>exact (by (with_reducible repeat (first | apply Kd.R_alloc | apply Kd.R_drewN | apply Kd.R_drew));exact Kd.R_mono HO142.out (fun _ hk=>hk.2)));(case aS=>exact (keep_size (w:=w) (g:=g) (row:=none) (q7_ HK GW110)));(case aL=>have:=LMc70.out;omega);intro v150 w76 ho hb hg hat;rw [← Ny149.out] at ho;have n0_:=ap6 (blk_grown (g:=gb110) (o:=.cells #[.int .i64 0,.int .i64 0,.int .i64 0,.int .i64 0,.slice none 0 0,.slice none 0 0] 69 (0,0)) (q6_ BK110) hg (Kd.R_away HO142.out (fun _ hk=>hk.2))) (IsS53.grown (q4_ HI0 NB0_110) hg (IsS53.own_ne HI0.out HO142.out (by decide))) (Kd.R_over' (q8_ HO146) (Kd.R_typed (q8_ HO142)) (by decide) hg) (below_weaken (q5_ HB HI0 GE110) HL.out hb) (J (q7_ HK GW110) (KeepBut.of_grown hg g) (Kd.R_base2 HO142.out)) (ho);clear BK110 HI0 HO146 HB HK HO142;obtain ⟨BK110,HI0,HO146,HB,HK,HO151⟩:=n0_;clear ho hb hg hat;obtain ⟨Ao77,co77,eo77⟩:=Kd.R_slice HO151.out;subst eo77;have hnb78:=NB110_0.out;have hnc78:=NB0_110.out;obtain ⟨hcz79_0,hcz79_1,hcz79_2,hcz79_3,hcz79_4,hcz79_5,hfz79_0,hfz79_1,hfz79_2,hfz79_3,hfz79_4,hfz79_5⟩:=bz6_ BK110))
              refine bodyPost_ret (results_cell_row rfl _ _ gb110 69 #[.int .i64 x9_29,.int .i64 t111,.int .i64 0,.int .i64 0,.slice Ao77 y149.length co77,.slice none 0 0] (0,0) _ rfl (q9_ BK110) Try.underlying69 rfl (by kernel_rfl)) rfl ?_
              exact ⟨_,_,y9_,by (with_reducible repeat (first | apply Kd.R_alloc | apply Kd.R_drewN | apply Kd.R_drew));exact Kd.R_mono (Kd.R_far (p:=⟨gb110,5,none⟩) (Kd.R_far (p:=⟨gb110,4,none⟩) (Kd.R_far (p:=⟨gb110,3,none⟩) (Kd.R_far (p:=⟨gb110,2,none⟩) (Kd.R_far (p:=⟨gb110,1,none⟩) (Kd.R_far (p:=⟨gb110,0,none⟩) (Kd.R_mono HO151.out (fun k_ hk=>(⟨hk,hk⟩ : _ ∧ k_ ≠ gb110))) (fun _ hk=>hk.2) (.int .i64 x9_29)) (fun _ hk=>hk.2) (.int .i64 t111)) (fun _ hk=>hk.2) (.int .i64 0)) (fun _ hk=>hk.2) (.int .i64 0)) (fun _ hk=>hk.2) (.slice Ao77 y149.length co77)) (fun _ hk=>hk.2) (.slice none 0 0)) (fun _ hk=>(by simp [Value.ownBlock])),y10_,y3_ HI0 NB0_110,y8_ HB HI0 GE110,y7_ HK GW110⟩
             ·rw [if_neg c70] at H
              exact absurd H (by simp)
            ·rw [if_neg c67] at H;obtain ⟨c67b0,c67b1⟩:=eqF c67
             by_cases c80 : x9_29 = 8
             ·rw [if_pos c80] at H;obtain ⟨c80b0,c80b1⟩:=eqT c80;clear c80;replace H:=U.mp H;obtain ⟨⟨t152,t153⟩,A810,H⟩:=H;replace H : ((spec_l2Draws.f kj49 s0_0 t153 (wrap64 (a1 - 1)) t152 3).bind fun bt154=>(some (x9_29,t152,0,0,bt154.1,([] : List (S69)),bt154.2))) = some (r1,r2,r3,r4,r5,r6,r7):=H;have A81:=O A810;clear A810;replace H:=U.mp H;obtain ⟨⟨t154,t157⟩,A820,H⟩:=H;replace H : (some (x9_29,t152,0,0,t154,([] : List (S69)),t157)) = some (r1,r2,r3,r4,r5,r6,r7):=H;have A82:=O A820;clear A820;simp only [Option.some.injEq,Prod.mk.injEq] at H;obtain ⟨rfl,rfl,rfl,rfl,rfl,rfl,rfl⟩:=H
              go_wp2_with (first | ((with_reducible refine Y (f:=16) rfl ?_);refine goesM_ (some 114) Try.func16 #[.pointer (some ⟨g,0,none⟩),.int .i64 2] ?_;(with_reducible refine (spec_l11Rd_pick.calls kj49 g s0_0 x1001_29 2 t152 t153 w0 _ ?side1 ?side2 A81.out).mono ?_);(case side1=>exact q4_ HI0 NB0_110);(case side2=>exact q5_ HB HI0 GE110);rintro e w83 ⟨rfl,hi,hb,hk⟩;refine ⟨_,rfl,?_⟩;have n0_:=ap4 (KeepBut.blk hk (g':=gb110) (o:=.cells #[.int .i64 0,.int .i64 0,.int .i64 0,.int .i64 0,.slice none 0 0,.slice none 0 0] 69 (0,0)) (q6_ BK110) NB110_0.out (by simp)) (J (q7_ HK GW110) hk (.inl rfl)) (hb) (hi);clear BK110 HK HB HI0;obtain ⟨BK110,HK,HB,HI0⟩:=n0_;(try clear hb);(try clear hk);(try clear hi)) | ((with_reducible refine Y (f:=49) rfl ?_);refine goesM_ (some 121) Try.func49 #[.pointer (some ⟨g,0,none⟩),.int .i64 (wrap64 (a1 - 1)),.int .i64 t152,.int .i64 3] ?_;(with_reducible refine (ih_spec_l2Draws kj49 (by have:=HJ6.out;have:=HJ29.out;have:=HJ49.out;omega) g s0_0 t153 (wrap64 (a1 - 1)) t152 3 t154 t157 w0 _ ?side1 ?side2 A82.out).mono ?_);(case side1=>exact q4_ HI0 NB0_110);(case side2=>exact q5_ HB HI0 GE110);rintro e w84 ⟨v155,rfl,ho0,hi,hb,hk⟩;refine ⟨_,rfl,?_⟩;have n0_:=ap5 (KeepBut.blk hk (g':=gb110) (o:=.cells #[.int .i64 0,.int .i64 0,.int .i64 0,.int .i64 0,.slice none 0 0,.slice none 0 0] 69 (0,0)) (q6_ BK110) NB110_0.out (by simp)) (Kd.R_lower (Kd.R_newB ho0 (g:=gb110) (o:=.cells #[.int .i64 0,.int .i64 0,.int .i64 0,.int .i64 0,.slice none 0 0,.slice none 0 0] 69 (0,0)) (q6_ BK110)) (keep_size (w:=w) (g:=g) (row:=none) (q7_ HK GW110))) (J (q7_ HK GW110) hk (.inl rfl)) (hb) (hi);clear BK110 HK HB HI0;obtain ⟨BK110,HO156,HK,HB,HI0⟩:=n0_;(try clear hb);(try clear hk);(try clear hi);obtain ⟨Ao85,co85,eo85⟩:=Kd.R_slice HO156.out;subst eo85;have hnb86:=NB110_0.out;have hnc86:=NB0_110.out;obtain ⟨hcz87_0,hcz87_1,hcz87_2,hcz87_3,hcz87_4,hcz87_5,hfz87_0,hfz87_1,hfz87_2,hfz87_3,hfz87_4,hfz87_5⟩:=bz6_ BK110))
              refine bodyPost_ret (results_cell_row rfl _ _ gb110 69 #[.int .i64 x9_29,.int .i64 t152,.int .i64 0,.int .i64 0,.slice Ao85 t154.length co85,.slice none 0 0] (0,0) _ rfl (q9_ BK110) Try.underlying69 rfl (by kernel_rfl)) rfl ?_
              exact ⟨_,_,y9_,by (with_reducible repeat (first | apply Kd.R_alloc | apply Kd.R_drewN | apply Kd.R_drew));exact Kd.R_mono (Kd.R_far (p:=⟨gb110,5,none⟩) (Kd.R_far (p:=⟨gb110,4,none⟩) (Kd.R_far (p:=⟨gb110,3,none⟩) (Kd.R_far (p:=⟨gb110,2,none⟩) (Kd.R_far (p:=⟨gb110,1,none⟩) (Kd.R_far (p:=⟨gb110,0,none⟩) (Kd.R_mono HO156.out (fun k_ hk=>(⟨hk,hk.2⟩ : _ ∧ k_ ≠ gb110))) (fun _ hk=>hk.2) (.int .i64 x9_29)) (fun _ hk=>hk.2) (.int .i64 t152)) (fun _ hk=>hk.2) (.int .i64 0)) (fun _ hk=>hk.2) (.int .i64 0)) (fun _ hk=>hk.2) (.slice Ao85 t154.length co85)) (fun _ hk=>hk.2) (.slice none 0 0)) (fun _ hk=>(by simp [Value.ownBlock])),y10_,y3_ HI0 NB0_110,y8_ HB HI0 GE110,y7_ HK GW110⟩
             ·rw [if_neg c80] at H;obtain ⟨c80b0,c80b1⟩:=eqF c80
              by_cases c88 : x9_29 = 9
              ·rw [if_pos c88] at H;obtain ⟨c88b0,c88b1⟩:=eqT c88;clear c88;replace H:=U.mp H;obtain ⟨⟨t158,t159⟩,A890,H⟩:=H;replace H : (some (x9_29,t158,0,0,([] : List (S69)),([] : List (S69)),t159)) = some (r1,r2,r3,r4,r5,r6,r7):=H;have A89:=O A890;clear A890;simp only [Option.some.injEq,Prod.mk.injEq] at H;obtain ⟨rfl,rfl,rfl,rfl,rfl,rfl,rfl⟩:=H
               go_wp2_with (first | ((with_reducible refine Y (f:=16) rfl ?_);refine goesM_ (some 128) Try.func16 #[.pointer (some ⟨g,0,none⟩),.int .i64 2] ?_;(with_reducible refine (spec_l11Rd_pick.calls kj49 g s0_0 x1001_29 2 t158 t159 w0 _ ?side1 ?side2 A89.out).mono ?_);(case side1=>exact q4_ HI0 NB0_110);(case side2=>exact q5_ HB HI0 GE110);rintro e w90 ⟨rfl,hi,hb,hk⟩;refine ⟨_,rfl,?_⟩;have n0_:=ap4 (KeepBut.blk hk (g':=gb110) (o:=.cells #[.int .i64 0,.int .i64 0,.int .i64 0,.int .i64 0,.slice none 0 0,.slice none 0 0] 69 (0,0)) (q6_ BK110) NB110_0.out (by simp)) (J (q7_ HK GW110) hk (.inl rfl)) (hb) (hi);clear BK110 HK HB HI0;obtain ⟨BK110,HK,HB,HI0⟩:=n0_;(try clear hb);(try clear hk);(try clear hi);have hnb91:=NB110_0.out;have hnc91:=NB0_110.out;obtain ⟨hcz92_0,hcz92_1,hcz92_2,hcz92_3,hcz92_4,hcz92_5,hfz92_0,hfz92_1,hfz92_2,hfz92_3,hfz92_4,hfz92_5⟩:=bz6_ BK110))
               refine bodyPost_ret (results_cell_row rfl _ _ gb110 69 #[.int .i64 x9_29,.int .i64 t158,.int .i64 0,.int .i64 0,.slice none 0 0,.slice none 0 0] (0,0) _ rfl (q9_ BK110) Try.underlying69 rfl (by kernel_rfl)) rfl ?_
               exact ⟨_,_,y9_,y10_,y10_,y3_ HI0 NB0_110,y8_ HB HI0 GE110,y7_ HK GW110⟩
              ·rw [if_neg c88] at H;obtain ⟨c88b0,c88b1⟩:=eqF c88
               by_cases c93 : x9_29 = 10
               ·rw [if_pos c93] at H;obtain ⟨c93b0,c93b1⟩:=eqT c93;clear c93;replace H:=U.mp H;obtain ⟨⟨t160,t161⟩,A940,H⟩:=H;replace H : (some (x9_29,t160,0,0,([] : List (S69)),([] : List (S69)),t161)) = some (r1,r2,r3,r4,r5,r6,r7):=H;have A94:=O A940;clear A940;simp only [Option.some.injEq,Prod.mk.injEq] at H;obtain ⟨rfl,rfl,rfl,rfl,rfl,rfl,rfl⟩:=H
                go_wp2_with (first | ((with_reducible refine Y (f:=16) rfl ?_);refine goesM_ (some 128) Try.func16 #[.pointer (some ⟨g,0,none⟩),.int .i64 2] ?_;(with_reducible refine (spec_l11Rd_pick.calls kj49 g s0_0 x1001_29 2 t160 t161 w0 _ ?side1 ?side2 A94.out).mono ?_);(case side1=>exact q4_ HI0 NB0_110);(case side2=>exact q5_ HB HI0 GE110);rintro e w95 ⟨rfl,hi,hb,hk⟩;refine ⟨_,rfl,?_⟩;have n0_:=ap4 (KeepBut.blk hk (g':=gb110) (o:=.cells #[.int .i64 0,.int .i64 0,.int .i64 0,.int .i64 0,.slice none 0 0,.slice none 0 0] 69 (0,0)) (q6_ BK110) NB110_0.out (by simp)) (J (q7_ HK GW110) hk (.inl rfl)) (hb) (hi);clear BK110 HK HB HI0;obtain ⟨BK110,HK,HB,HI0⟩:=n0_;(try clear hb);(try clear hk);(try clear hi);have hnb96:=NB110_0.out;have hnc96:=NB0_110.out;obtain ⟨hcz97_0,hcz97_1,hcz97_2,hcz97_3,hcz97_4,hcz97_5,hfz97_0,hfz97_1,hfz97_2,hfz97_3,hfz97_4,hfz97_5⟩:=bz6_ BK110))
                refine bodyPost_ret (results_cell_row rfl _ _ gb110 69 #[.int .i64 x9_29,.int .i64 t160,.int .i64 0,.int .i64 0,.slice none 0 0,.slice none 0 0] (0,0) _ rfl (q9_ BK110) Try.underlying69 rfl (by kernel_rfl)) rfl ?_
                exact ⟨_,_,y9_,y10_,y10_,y3_ HI0 NB0_110,y8_ HB HI0 GE110,y7_ HK GW110⟩
               ·rw [if_neg c93] at H;obtain ⟨c93b0,c93b1⟩:=eqF c93;simp only [Option.some.injEq,Prod.mk.injEq] at H;obtain ⟨rfl,rfl,rfl,rfl,rfl,rfl,rfl⟩:=H;have hnb98:=NB110_0.out;have hnc98:=NB0_110.out;obtain ⟨hcz99_0,hcz99_1,hcz99_2,hcz99_3,hcz99_4,hcz99_5,hfz99_0,hfz99_1,hfz99_2,hfz99_3,hfz99_4,hfz99_5⟩:=bz6_ BK110
                go_wp2
                refine bodyPost_ret (results_cell_row rfl _ _ gb110 69 #[.int .i64 11,.int .i64 0,.int .i64 0,.int .i64 0,.slice none 0 0,.slice none 0 0] (0,0) _ rfl (q9_ BK110) Try.underlying69 rfl (by kernel_rfl)) rfl ?_
                exact ⟨_,_,y9_,y10_,y10_,y3_ HI0 NB0_110,y8_ HB HI0 GE110,y7_ HK GW110⟩
set_option maxHeartbeats 8000000 in
set_option maxRecDepth 100000 in
theorem spec_l2Draws.calls_ (k : Nat) (ih_spec_l2Draw : ∀ k_,k_ < k → spec_l2Draw.Says k_) (ih_spec_l2Draws : ∀ k_,k_ < k → spec_l2Draws.Says k_) : spec_l2Draws.Says k:=by
 intro g s0_0 s0_1 a1 a2 a3 r1 r2 w0 w hI hB h
 cases k with
 | zero=>exact absurd h (by simp [spec_l2Draws.f])
 | succ k =>
 simp only [spec_l2Draws.f] at h;have HI0:=O hI;have HK:=O (KeepBut.refl w g none);have HL:=O hB.size;clear hI;have HW0:=O hB.size;have HB:=O hB;clear hB;have H : ((spec_l11Rd_pick.f k s0_0 s0_1 (wrap64 (a3 + 1))).bind fun bt165=>(spec_l2Draws.l0 k a1 a2 (([] : List (S69))) bt165.1 s0_0 bt165.2)) = some (r1,r2):=h;clear h;obtain ⟨y162,hy162⟩ : ∃ y_ : List (S69),y_ = (([] : List (S69))):=⟨_,rfl⟩
 replace H : ((spec_l11Rd_pick.f k s0_0 s0_1 (wrap64 (a3 + 1))).bind fun bt165=>(spec_l2Draws.l0 k a1 a2 y162 bt165.1 s0_0 bt165.2)) = some (r1,r2):=by first | (rw [hy162];with_reducible exact H) | (have H2_:=(E _ _).symm.trans H;rw [hy162];with_reducible exact H2_) | (have H2_:=(E _ _).symm.trans H;with_reducible exact H2_) | with_reducible exact H | (rw [hy162];exact H) | exact H
 have Ny162:=O hy162;clear hy162;replace H:=U.mp H;obtain ⟨⟨t165,t166⟩,A50,H⟩:=H;replace H : (spec_l2Draws.l0 k a1 a2 y162 t165 s0_0 t166) = some (r1,r2):=H;have A5:=O A50;clear A50;have H':=O H;clear H;go_enter Try.func49,Try.ntmps49
 go_wp2_with (first | ((with_reducible refine gate_dst (N:=11) rfl ?_);refine Kd.R_lit k69 _ 69 ?hg (N:=11) ?hd (xs:=([] : List (S69))) (inner:=[]) (ok:=fun _=>True) (okp:=fun _=>True) ?hr ?hp (fun _ hk=>hk) trivial (Below.refl _ _) (Nat.le_refl _) (by simp) ?_;(case hd=>rfl);(case hg=>rfl);(case hr=>first | (go_simp;done) | (go_simp;rfl));(case hp=>exact (Reps.none _ _));intro v163 w6 ho7 hb hg_ hnew_;clear hg_ hnew_;(first | rw [← Ny162.out] at ho7 | (simp only [Int.reduceToNat] at ho7;rw [← Ny162.out] at ho7));have n0_:=ap4 (Kd.R_lower ho7 (keep_size (w:=w) (g:=g) (row:=none) (q3_ HK))) (IsS53.below (q1_ HI0) hb) (J (q3_ HK) (KeepBut.of_below hb g none) (.inl rfl)) (below_step (q2_ HB HI0) hb);clear HI0 HK HB;obtain ⟨HO164,HI0,HK,HB⟩:=n0_;clear hb ho7) | ((with_reducible refine Y (f:=16) rfl ?_);refine goesM_ (some 15) Try.func16 #[.pointer (some ⟨g,0,none⟩),.int .i64 (wrap64 (a3 + 1))] ?_;(with_reducible refine (spec_l11Rd_pick.calls k g s0_0 s0_1 (wrap64 (a3 + 1)) t165 t166 w0 _ ?side1 ?side2 A5.out).mono ?_);(case side1=>exact q1_ HI0);(case side2=>exact q2_ HB HI0);rintro e w8 ⟨rfl,hi,hb,hk⟩;refine ⟨_,rfl,?_⟩;have n0_:=ap4 (Kd.R_mono (Kd.R_keep (IsS53.apart (show IsS53 w0 _ g s0_0 s0_1 from y1_ HI0) (q8_ HO164) (by decide)) hk (fun _ h=>h.2)) (fun _ h=>h.1)) (J (q3_ HK) hk (.inl rfl)) (hb) (hi);clear HO164 HK HB HI0;obtain ⟨HO164,HK,HB,HI0⟩:=n0_;(try clear hb);(try clear hk);(try clear hi)))
 go_loopg [9,10] k (fun kq v9 v10 w'=>∃ (x9_1 : List (S69)) (x10_1 : Int) (x1001_1 : Int),v10 = .int .i64 x10_1 ∧ Aside0 (spec_l2Draws.l0 kq a1 a2 x9_1 x10_1 s0_0 x1001_1 = some (r1,r2)) ∧ Aside0 (kq ≤ k) ∧ Aside0 (Kd.R k69 69 w' w.heap.size (fun _=>True) v9 x9_1) ∧ Aside0 (IsS53 w0 w' g s0_0 x1001_1) ∧ Aside0 (KeepBut w w' g none) ∧ Aside0 (Below w0.heap.size w0 w'))
 case atStart=>exact ⟨(y162),(t165),(t166),(y4_),H',⟨Nat.le_refl _⟩,⟨y11_ HO164⟩,⟨y1_ HI0⟩,⟨y12_ HK⟩,⟨y13_ HB HI0⟩⟩
 case round =>
  clear H';obtain ⟨x9_1,x10_1,x1001_1,rfl,HA,HK1,HO_9,HI0,HK,HB⟩:=hrel
  cases gk with
  | zero=>exact absurd HA.out (by simp [spec_l2Draws.l0])
  | succ k1 =>
   have H:=HA.out;clear HA;simp only [spec_l2Draws.l0] at H
   by_cases c9 : x10_1 > 0
   ·rw [if_pos c9] at H;have c9b0 : decide (0 < x10_1) = true:=decide_eq_true c9;clear c9;replace H:=U.mp H;obtain ⟨⟨t167,t168,t169,t170,t171,t174,t177⟩,A100,H⟩:=H;replace H : (if x9_1.length < 1759218604441 then (spec_l2Draws.l0 k1 a1 a2 (x9_1 ++ [(⟨t167,t168,t169,t170,t171,t174⟩ : S69)]) (wrap64 (x10_1 - 1)) s0_0 t177) else (none)) = some (r1,r2):=H;have A10:=O A100;clear A100
    by_cases c11 : x9_1.length < 1759218604441
    ·rw [if_pos c11] at H;have LMc11:=O c11;clear c11;obtain ⟨y178,hy178⟩ : ∃ y_ : List (S69),y_ = (x9_1 ++ [(⟨t167,t168,t169,t170,t171,t174⟩ : S69)]):=⟨_,rfl⟩
     replace H : (spec_l2Draws.l0 k1 a1 a2 y178 (wrap64 (x10_1 - 1)) s0_0 t177) = some (r1,r2):=by first | (rw [hy178];with_reducible exact H) | (have H2_:=(E _ _).symm.trans H;rw [hy178];with_reducible exact H2_) | (have H2_:=(E _ _).symm.trans H;with_reducible exact H2_) | with_reducible exact H | (rw [hy178];exact H) | exact H
     have Ny178:=O hy178;clear hy178;have H':=O H;clear H
     go_wp2_with (first | ((with_reducible refine Y (f:=39) rfl ?_);refine goesM_ (some 24) Try.func39 #[.pointer (some ⟨g,0,none⟩),.int .i64 a1,.int .i64 a2] ?_;(with_reducible refine (ih_spec_l2Draw k1 (by have:=HK1.out;omega) g s0_0 x1001_1 a1 a2 t167 t168 t169 t170 t171 t174 t177 w0 _ ?side1 ?side2 A10.out).mono ?_);(case side1=>exact q1_ HI0);(case side2=>exact q2_ HB HI0);rintro e w12 ⟨v172,v175,rfl,ho0,ho1,hi,hb,hk⟩;refine ⟨_,rfl,?_⟩;have n0_:=ap6 (Kd.R_mono (Kd.R_told (Kd.R_told (Kd.R_oldK (IsS53.apart (show IsS53 w0 _ g s0_0 x1001_1 from y1_ HI0) (q8_ HO_9) (by decide)) hk) (Kd.R_base ho0)) (Kd.R_base ho1)) (fun _ h_=>h_.1)) (Kd.R_lower (Kd.R_new' ho0 (Kd.R_lt (q8_ HO_9))) (keep_size (w:=w) (g:=g) (row:=none) (q3_ HK))) (Kd.R_lower (Kd.R_new' ho1 (Kd.R_lt (q8_ HO_9))) (keep_size (w:=w) (g:=g) (row:=none) (q3_ HK))) (J (q3_ HK) hk (.inl rfl)) (hb) (hi);clear HO_9 HK HB HI0;obtain ⟨HO_9,HO173,HO176,HK,HB,HI0⟩:=n0_;(try clear hb);(try clear hk);(try clear hi);(try clear ho0);(try clear ho1);obtain ⟨Ao14,co14,eo14⟩:=Kd.R_slice HO173.out;subst eo14;obtain ⟨Ao15,co15,eo15⟩:=Kd.R_slice HO176.out;subst eo15) | ((with_reducible refine gate_builtin (b:=.append) (xs:=#[.tmp 20,.tmp 25]) rfl ?_);at_builtin;refine Kd.R_append k69 w.heap.size rfl (.tmp 20) (.tmp 25) 49 69 (.agg #[(.int .i64 0),(.int .i64 0),(.int .i64 0),(.int .i64 0),(.slice none 0 0),(.slice none 0 0)]) 80 rfl Try.underlying49 info69 rfl (by decide) (by omega) u9 x9_1 (⟨t167,t168,t169,t170,t171,t174⟩ : S69) [.int .i64 t167,.int .i64 t168,.int .i64 t169,.int .i64 t170,.slice Ao14 t171.length co14,.slice Ao15 t174.length co15] (fun _=>True) (fun k_=>((fun _=>True)) k_ ∧ some k_ ≠ (u9 : Value).ownBlock) rfl rfl ?aP (fun _ hk=>hk) ?aF ?aO (Below.refl _ _) ?aS ?aL ?_;(case aP=>exact k69_mkM _ _ _ (⟨t167,t168,t169,t170,t171,t174⟩ : S69) (Kd.R_mono (HO173.out) (fun k_ hk=>⟨trivial,hk.2⟩)) (Kd.R_mono (HO176.out) (fun k_ hk=>⟨trivial,hk.2⟩)));(case aF=>exact (fun _ _=>trivial));(case aO=>exact (by (with_reducible repeat (first | apply Kd.R_alloc | apply Kd.R_drewN | apply Kd.R_drew));exact Kd.R_mono HO_9.out (fun _ hk=>trivial)));(case aS=>exact (keep_size (w:=w) (g:=g) (row:=none) (q3_ HK)));(case aL=>have:=LMc11.out;omega);intro v179 w13 ho hb hg hat;rw [← Ny178.out] at ho;have n0_:=ap4 (IsS53.grown (q1_ HI0) hg (IsS53.own_ne HI0.out HO_9.out (by decide))) (below_weaken (q2_ HB HI0) HL.out hb) (J (q3_ HK) (KeepBut.of_grown hg g) (Kd.R_base2 HO_9.out)) (ho);clear HI0 HB HK HO_9 HO173 HO176;obtain ⟨HI0,HB,HK,HO180⟩:=n0_;clear ho hb hg hat))
     go_roundg k1
     case measure=>have:=HK1.out;omega
     case rel=>exact ⟨(y178),(wrap64 (x10_1 - 1)),(t177),(y4_),H',⟨by have:=HK1.out;omega⟩,⟨y11_ HO180⟩,⟨y1_ HI0⟩,⟨y12_ HK⟩,⟨y13_ HB HI0⟩⟩
    ·rw [if_neg c11] at H
     exact absurd H (by simp)
   ·rw [if_neg c9] at H;have c9b0 : decide (0 < x10_1) = false:=decide_eq_false c9;clear c9;simp only [Option.some.injEq,Prod.mk.injEq] at H;obtain ⟨rfl,rfl⟩:=H
    go_wp2
    go_ret
    exact ⟨_,y9_,y11_ HO_9,y1_ HI0,y13_ HB HI0,y12_ HK⟩
theorem spec_l2Draw.grp.calls_all (k : Nat) : spec_l2Draw.Says k ∧ spec_l2Draws.Says k:=by
 induction k using Nat.strongRecOn with
 | _ k ih=>exact ⟨spec_l2Draw.calls_ k (fun j h=>(ih j h).1) (fun j h=>(ih j h).2),spec_l2Draws.calls_ k (fun j h=>(ih j h).1) (fun j h=>(ih j h).2)⟩
theorem spec_l2Draw.calls (k : Nat) : spec_l2Draw.Says k:=(spec_l2Draw.grp.calls_all k).1
end Go.Proofs.Ytfbocgagfodgnaa.P
