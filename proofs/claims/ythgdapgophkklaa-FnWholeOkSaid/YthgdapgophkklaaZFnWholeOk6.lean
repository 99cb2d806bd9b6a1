/- Parts of the proof of FnWholeOk: plain Lean functions of Go functions, and that the calls come to what they say; no condition beyond those that each theorem names. -/
import Derived.Test.YthgdapgophkklaaZFnWholeOk4
import Derived.Test.YthgdapgophkklaaZFnWholeOk5
namespace Go.Proofs.Ythgdapgophkklaa.P
open Go.RowKit Go.Proofs.YthgdapgophkklaaW.PrintWords Go.Proofs.YthgdapgophkklaaW.PrintLast Go.Proofs.YthgdapgophkklaaW.PrintMore
open Go.Proofs.YthgdapgophkklaaW.PrintWords renaming Aside0.mk → O
open Go.RowKit renaming wrap64 → Z
attribute [local go_sem] max2_int min2_int max_two min_two max_three min_three max_four min_four
set_option linter.unusedVariables false
set_option linter.unusedSimpArgs false
def IsS53 (w0 W : World) (g : Nat) (f0 : List Int) (f1 : Int) : Prop:=∃ A0 c0,W.heap[g]? = some (.cells #[.slice A0 f0.length c0,.int .i64 f1] 53 (0,0)) ∧ w0.heap.size ≤ g ∧ Kd.C (Kd.int .u8) w0 A0 f0.length f0
theorem IsS53.grown {w0 W : World} {g : Nat} {f0 : List Int} {f1 : Int} {W1 : World} {row : Option Nat} (h : IsS53 w0 W g f0 f1) (hw : W.grownBy W1 row) (hne : some g ≠ row) : IsS53 w0 W1 g f0 f1:=by
 obtain ⟨A0,c0,hb,hg,hr0⟩:=h
 exact ⟨A0,c0,blk_grown hb hw hne,hg,hr0⟩
theorem IsS53.own_neN {w0 W : World} {g : Nat} {f0 : List Int} {f1 : Int} {α : Type} {d : Kd α} {e : Nat} {base : Nat} {ok : Nat → Prop} {v : Value} {xs : List α} (h : IsS53 w0 W g f0 f1) (ho : Kd.N d e W base ok v xs) (ht : e ≠ 53) : some g ≠ v.ownBlock:=by
 obtain ⟨A0,c0,hb,hg,hr0⟩:=h
 exact Kd.N_ne ho hb ht
theorem IsS53.fresh {w0 W : World} {g : Nat} {f0 : List Int} {f1 : Int} (h : IsS53 w0 W g f0 f1) : ∀ k,W.heap.size ≤ k → k ≠ g:=by
 obtain ⟨A0,c0,hb,hg,hr0⟩:=h
 exact Kd.freshB hb
theorem IsS53.kept {w0 W : World} {g : Nat} {f0 : List Int} {f1 : Int} {W1 : World} {S : Nat → Prop} (h : IsS53 w0 W g f0 f1) (hk : Kept W W1 S) (hne : ¬ S g) : IsS53 w0 W1 g f0 f1:=by
 obtain ⟨A0,c0,hb,hg,hr0⟩:=h
 exact ⟨A0,c0,blk_kept hb hk hne,hg,hr0⟩
theorem IsS53.below {w0 W : World} {g : Nat} {f0 : List Int} {f1 : Int} {W1 : World} (h : IsS53 w0 W g f0 f1) (hw : Below W.heap.size W W1) : IsS53 w0 W1 g f0 f1:=h.grown (grown_of_below hw none) (by simp)
theorem IsS53.alloc {w0 W : World} {g : Nat} {f0 : List Int} {f1 : Int} (h : IsS53 w0 W g f0 f1) (o : Obj) : IsS53 w0 (W.alloc o) g f0 f1:=h.below (below_alloc (Below.refl _ _) o)
theorem IsS53.drewN {w0 W : World} {g : Nat} {f0 : List Int} {f1 : Int} (h : IsS53 w0 W g f0 f1) (m : Nat) : IsS53 w0 (W.drewN m) g f0 f1:=h
theorem IsS53.drew {w0 W : World} {g : Nat} {f0 : List Int} {f1 : Int} (h : IsS53 w0 W g f0 f1) : IsS53 w0 W.drew g f0 f1:=h
theorem IsS53.at_ {w0 W : World} {g : Nat} {f0 : List Int} {f1 : Int} {w' : World} {m : Nat} (hq : W.drewN m = w') (h : IsS53 w0 W g f0 f1) : IsS53 w0 w' g f0 f1:=by subst hq;exact IsS53.drewN h m
theorem IsS53.apart {w0 W : World} {g : Nat} {f0 : List Int} {f1 : Int} {α : Type} {d : Kd α} {e : Nat} {base : Nat} {ok : Nat → Prop} {v : Value} {xs : List α} (h : IsS53 w0 W g f0 f1) (ho : d.R e W base ok v xs) (ht : ∀ q,q ∈ e :: d.E → q ≠ 53) : d.R e W base (fun k=>ok k ∧ k ≠ g) v xs:=by
 obtain ⟨A0,c0,hb,hg,hr0⟩:=h
 exact Kd.R_types ho hb ht
theorem IsS53.own_ne {w0 W : World} {g : Nat} {f0 : List Int} {f1 : Int} {α : Type} {d : Kd α} {e : Nat} {base : Nat} {ok : Nat → Prop} {v : Value} {xs : List α} (h : IsS53 w0 W g f0 f1) (ho : d.R e W base ok v xs) (ht : e ≠ 53) : some g ≠ v.ownBlock:=by
 obtain ⟨A0,c0,hb,hg,hr0⟩:=h
 exact Kd.R_ne ho hb ht
theorem IsS53.lt {w0 W : World} {g : Nat} {f0 : List Int} {f1 : Int} (h : IsS53 w0 W g f0 f1) : g < W.heap.size:=by
 obtain ⟨A0,c0,hb,hg,hr0⟩:=h
 exact blk_lt hb
theorem IsS53.ge {w0 W : World} {g : Nat} {f0 : List Int} {f1 : Int} (h : IsS53 w0 W g f0 f1) : w0.heap.size ≤ g:=by
 obtain ⟨A0,c0,hb,hg,hr0⟩:=h
 exact hg
theorem IsS53.far {w0 W : World} {g : Nat} {f0 : List Int} {f1 : Int} {p : Addr} (h : IsS53 w0 W g f0 f1) (hne : g ≠ p.block) (u : Value) : IsS53 w0 (W.setCell p u) g f0 f1:=by
 obtain ⟨A0,c0,hb,hg,hr0⟩:=h
 exact ⟨A0,c0,blk_far hb hne u,hg,hr0⟩
theorem cellS53_0 {W : World} {g : Nat} {A0 : Option Addr} {c0 : Nat} {f0 : List Int} {f1 : Int} (h : W.heap[g]? = some (.cells #[.slice A0 f0.length c0,.int .i64 f1] 53 (0,0))) : W.cell? ⟨g,0,none⟩ = some (.slice A0 f0.length c0):=(blk_cell h 0).trans rfl
theorem cellS53_1 {W : World} {g : Nat} {A0 : Option Addr} {c0 : Nat} {f0 : List Int} {f1 : Int} (h : W.heap[g]? = some (.cells #[.slice A0 f0.length c0,.int .i64 f1] 53 (0,0))) : W.cell? ⟨g,1,none⟩ = some (.int .i64 f1):=(blk_cell h 1).trans rfl
theorem IsS53.set_1 {w0 W : World} {g : Nat} {f0 : List Int} {f1 : Int} (h : IsS53 w0 W g f0 f1) (x : Int) : IsS53 w0 (W.setCell ⟨g,1,none⟩ (.int .i64 x)) g f0 x:=by
 obtain ⟨A0,c0,hb,hg,hr0⟩:=h
 exact ⟨A0,c0,by simpa using blk_set hb 1 (.int .i64 x),hg,hr0⟩
def spec_l11Rd_pick.j0 : Nat → Int → Bool → List Int → Int → Option (Int × Int)
 | 0,_,_,_,_=>none
 | k + 1,x1,x24,x1000,x1001=>if x24 = true then (some (0,x1001)) else (if (Z (x1001 - 1)) < (x1000.length : Int) then (if 0 ≤ (Z (x1001 - 1)) then (if x1 = 0 then (none) else (some (Int.tmod (Z (rd x1000 (Z (x1001 - 1)))) x1,x1001))) else (none)) else (if (x1000.length : Int) = 0 then (none) else (if 0 ≤ (Int.tmod (Z (x1001 - 1)) (x1000.length : Int)) then (if (Int.tmod (Z (x1001 - 1)) (x1000.length : Int)) < (x1000.length : Int) then (if 0 ≤ (Int.tmod (Z ((Z ((Z (x1001 - 1)) * 7)) + 3)) (x1000.length : Int)) then (if (Int.tmod (Z ((Z ((Z (x1001 - 1)) * 7)) + 3)) (x1000.length : Int)) < (x1000.length : Int) then (if x1 = 0 then (none) else (some (Int.tmod (Go.bits .xor .i64 (Z ((Z ((Z ((Z ((Z (rd x1000 (Int.tmod (Z (x1001 - 1)) (x1000.length : Int)))) * 131)) + (Z ((Z (rd x1000 (Int.tmod (Z ((Z ((Z (x1001 - 1)) * 7)) + 3)) (x1000.length : Int)))) * 1117)))) + (Z ((Z (x1001 - 1)) * 29)))) + (Z ((Z (Int.tdiv (Z (x1001 - 1)) (x1000.length : Int))) * 53)))) (Z (Int.tdiv (Z ((Z ((Z ((Z ((Z (rd x1000 (Int.tmod (Z (x1001 - 1)) (x1000.length : Int)))) * 131)) + (Z ((Z (rd x1000 (Int.tmod (Z ((Z ((Z (x1001 - 1)) * 7)) + 3)) (x1000.length : Int)))) * 1117)))) + (Z ((Z (x1001 - 1)) * 29)))) + (Z ((Z (Int.tdiv (Z (x1001 - 1)) (x1000.length : Int))) * 53)))) 64))) x1,x1001))) else (none)) else (none)) else (none)) else (none))))
def spec_l11Rd_pick.f (k : Nat) (s0_0 : List Int) (s0_1 : Int) (a1 : Int) : Option (Int × Int):=if a1 < 1 then (spec_l11Rd_pick.j0 k a1 true s0_0 (Z (s0_1 + 1))) else (spec_l11Rd_pick.j0 k a1 ((s0_0.length : Int) == 0) s0_0 (Z (s0_1 + 1)))
set_option maxHeartbeats 8000000 in
set_option maxRecDepth 100000 in
theorem spec_l11Rd_pick.calls (k : Nat) (g : Nat) (s0_0 : List Int) (s0_1 : Int) (a1 : Int) (r1 : Int) (r2 : Int) (w0 w : World) (hI : IsS53 w0 w g s0_0 s0_1) (hB : Below w0.heap.size w0 w) (h : spec_l11Rd_pick.f k s0_0 s0_1 a1 = some (r1,r2)) :
  Calls Try.prog 18 #[.pointer (some ⟨g,0,none⟩),.int .i64 a1] w fun e w'=>e = .returned (.int .i64 r1) ∧ IsS53 w0 w' g s0_0 r2 ∧ Below w0.heap.size w0 w' ∧ KeepBut w w' g none:=by
 have HI0:=O hI;have HK:=O (KeepBut.refl w g none);have HL:=O hB.size;clear hI;have HW0:=O hB.size;have HB:=O hB;clear hB;have H : (if a1 < 1 then (spec_l11Rd_pick.j0 k a1 true s0_0 (Z (s0_1 + 1))) else (spec_l11Rd_pick.j0 k a1 ((s0_0.length : Int) == 0) s0_0 (Z (s0_1 + 1)))) = some (r1,r2):=h;clear h;have HC3:=O H;clear H;obtain ⟨ASz4_0,cSz4_0,HGz4,hgz4,HSz4_0⟩:=HI0.out;have hcz4_0:=cellS53_0 HGz4;have hcz4_1:=cellS53_1 HGz4;have hfz4_1:=blk_frozen HGz4 1;clear HGz4 hgz4;go_enter Try.func18,Try.ntmps18
 go_upto_region 2 with (fail)
 repeat (go_quiet (fail);go_upto_region 2 with (fail))
 go_cut [24] (fun v24 wc=>∃ (kq : Nat) (x24_2 : Bool),v24 = .bool x24_2 ∧ Aside0 (spec_l11Rd_pick.j0 kq a1 x24_2 s0_0 (Z (s0_1 + 1)) = some (r1,r2)) ∧ Aside0 (kq ≤ k) ∧ Aside0 (IsS53 w0 wc g s0_0 (Z (s0_1 + 1))) ∧ Aside0 (KeepBut w wc g none) ∧ Aside0 (Below w0.heap.size w0 wc))
 case first =>
  have H:=HC3.out;clear HC3
  by_cases c5 : a1 < 1
  ·rw [if_pos c5] at H;have c5b0 : decide (a1 < 1) = true:=decide_eq_true c5;clear c5
   (first | rw [c5b0] | (simp only [i64_w,i32_w];rw [c5b0]) | skip)
   have H':=O H;clear H
   go_wp2
   repeat (go_quiet (fail);try go_wp2)
   go_meet
   case rel=>exact ⟨_,(true),(by first | rfl | (simp;done) | (simp [*];done)),H',⟨by first | omega | exact Nat.le_refl _⟩,⟨by repeat (first | (with_reducible first | exact HI0.out | apply IsS53.alloc | apply IsS53.drewN | apply IsS53.drew | apply IsS53.set_1) | exact HI0.out)⟩,⟨by repeat (first | (with_reducible first | exact HK.out | apply KeepBut.set_ | apply keep_drewN | apply keep_drew | apply keep_alloc) | exact HK.out)⟩,⟨by repeat (first | (with_reducible first | exact HB.out | apply below_alloc | apply pw_below_drewN | apply below_drew1 | refine below_set ?_ (IsS53.ge HI0.out)) | exact HB.out)⟩⟩
  ·rw [if_neg c5] at H;have c5b0 : decide (a1 < 1) = false:=decide_eq_false c5;clear c5
   (first | rw [c5b0] | (simp only [i64_w,i32_w];rw [c5b0]) | skip)
   have H':=O H;clear H;obtain ⟨ASz6_0,cSz6_0,HGz6,hgz6,HSz6_0⟩:=HI0.out;have hcz6_0:=cellS53_0 HGz6;have hcz6_1:=cellS53_1 HGz6;have hfz6_1:=blk_frozen HGz6 1;clear HGz6 hgz6
   go_wp2
   repeat (go_quiet (fail);try go_wp2)
   go_meet
   case rel=>exact ⟨_,(((s0_0.length : Int) == 0)),(by first | rfl | (simp;done) | (simp [*];done)),H',⟨by first | omega | exact Nat.le_refl _⟩,⟨by repeat (first | (with_reducible first | exact HI0.out | apply IsS53.alloc | apply IsS53.drewN | apply IsS53.drew | apply IsS53.set_1) | exact HI0.out)⟩,⟨by repeat (first | (with_reducible first | exact HK.out | apply KeepBut.set_ | apply keep_drewN | apply keep_drew | apply keep_alloc) | exact HK.out)⟩,⟨by repeat (first | (with_reducible first | exact HB.out | apply below_alloc | apply pw_below_drewN | apply below_drew1 | refine below_set ?_ (IsS53.ge HI0.out)) | exact HB.out)⟩⟩
 case rest =>
  clear HC3;(try clear c1);(try clear p2);(try clear c5);(try clear c5b0);(try clear p6);(try clear hcz4_0);(try clear hcz4_1);(try clear hcz6_0);(try clear hcz6_1);(try clear hfz4_1);(try clear hfz6_1);obtain ⟨kq,x24_2,rfl,HA,HJ2,HI0,HK,HB⟩:=hcut
  cases kq with
  | zero=>exact absurd HA.out (by simp [spec_l11Rd_pick.j0])
  | succ kj2 =>
   have H:=HA.out;clear HA;simp only [spec_l11Rd_pick.j0] at H
   by_cases c7 : x24_2 = true
   ·subst c7
    have H1 : (some (0,(Z (s0_1 + 1)))) = some (r1,r2):=by rw [if_pos rfl] at H;exact H
    clear H;have H:=H1;clear H1;simp only [Option.some.injEq,Prod.mk.injEq] at H;obtain ⟨rfl,rfl⟩:=H
    go_wp2
    repeat (go_quiet (fail);try go_wp2)
    go_ret
    exact ⟨by first | rfl | (simp [errW_none,errW_some] <;> rfl) | (simp [*,errW_none,errW_some] <;> rfl),by repeat (first | (with_reducible first | exact HI0.out | apply IsS53.alloc | apply IsS53.drewN | apply IsS53.drew | apply IsS53.set_1) | exact HI0.out),by repeat (first | (with_reducible first | exact HB.out | apply below_alloc | apply pw_below_drewN | apply below_drew1 | refine below_set ?_ (IsS53.ge HI0.out)) | exact HB.out),by repeat (first | (with_reducible first | exact HK.out | apply KeepBut.set_ | apply keep_drewN | apply keep_drew | apply keep_alloc) | exact HK.out)⟩
   ·replace c7:=Bool.eq_false_iff.mpr c7;subst c7
    have H1 : (if (Z ((Z (s0_1 + 1)) - 1)) < (s0_0.length : Int) then (if 0 ≤ (Z ((Z (s0_1 + 1)) - 1)) then (if a1 = 0 then (none) else (some (Int.tmod (Z (rd s0_0 (Z ((Z (s0_1 + 1)) - 1)))) a1,(Z (s0_1 + 1))))) else (none)) else (if (s0_0.length : Int) = 0 then (none) else (if 0 ≤ (Int.tmod (Z ((Z (s0_1 + 1)) - 1)) (s0_0.length : Int)) then (if (Int.tmod (Z ((Z (s0_1 + 1)) - 1)) (s0_0.length : Int)) < (s0_0.length : Int) then (if 0 ≤ (Int.tmod (Z ((Z ((Z ((Z (s0_1 + 1)) - 1)) * 7)) + 3)) (s0_0.length : Int)) then (if (Int.tmod (Z ((Z ((Z ((Z (s0_1 + 1)) - 1)) * 7)) + 3)) (s0_0.length : Int)) < (s0_0.length : Int) then (if a1 = 0 then (none) else (some (Int.tmod (Go.bits .xor .i64 (Z ((Z ((Z ((Z ((Z (rd s0_0 (Int.tmod (Z ((Z (s0_1 + 1)) - 1)) (s0_0.length : Int)))) * 131)) + (Z ((Z (rd s0_0 (Int.tmod (Z ((Z ((Z ((Z (s0_1 + 1)) - 1)) * 7)) + 3)) (s0_0.length : Int)))) * 1117)))) + (Z ((Z ((Z (s0_1 + 1)) - 1)) * 29)))) + (Z ((Z (Int.tdiv (Z ((Z (s0_1 + 1)) - 1)) (s0_0.length : Int))) * 53)))) (Z (Int.tdiv (Z ((Z ((Z ((Z ((Z (rd s0_0 (Int.tmod (Z ((Z (s0_1 + 1)) - 1)) (s0_0.length : Int)))) * 131)) + (Z ((Z (rd s0_0 (Int.tmod (Z ((Z ((Z ((Z (s0_1 + 1)) - 1)) * 7)) + 3)) (s0_0.length : Int)))) * 1117)))) + (Z ((Z ((Z (s0_1 + 1)) - 1)) * 29)))) + (Z ((Z (Int.tdiv (Z ((Z (s0_1 + 1)) - 1)) (s0_0.length : Int))) * 53)))) 64))) a1,(Z (s0_1 + 1))))) else (none)) else (none)) else (none)) else (none)))) = some (r1,r2):=by rw [if_neg (show ¬ (false = true) by decide)] at H;exact H
    clear H;have H:=H1;clear H1
    by_cases c8 : (Z ((Z (s0_1 + 1)) - 1)) < (s0_0.length : Int)
    ·rw [if_pos c8] at H;have c8b0 : decide ((Z ((Z (s0_1 + 1)) - 1)) < (s0_0.length : Int)) = true:=decide_eq_true c8;clear c8;obtain ⟨ji9,hji9⟩ : ∃ j_ : Int,(Z ((Z (s0_1 + 1)) - 1)) = j_:=⟨_,rfl⟩
     replace H : (if 0 ≤ (ji9) then (if a1 = 0 then (none) else (some (Int.tmod (Z (rd s0_0 (ji9))) a1,(Z (s0_1 + 1))))) else (none)) = some (r1,r2):=by first | (rw [hji9] at H;exact H) | (simp only [hji9] at H ⊢;exact H)
     (try rw [hji9] at c8b0)
     have hji9w : (IntKind.i64.wrap ((Z (s0_1 + 1)) - 1)) = ji9:=(i64_w _).trans hji9
     by_cases c10 : 0 ≤ (ji9)
     ·rw [if_pos c10] at H;have c10b0 : decide (0 ≤ (ji9)) = true:=decide_eq_true c10;clear c10
      by_cases c11 : a1 = 0
      ·rw [if_pos c11] at H
       exact absurd H (by simp)
      ·rw [if_neg c11] at H;have c11b0 : (a1 == 0) = false:=beq_eq_false_iff_ne.mpr c11;have c11b1 : (a1 != 0) = true:=bne_iff_ne.mpr c11;simp only [Option.some.injEq,Prod.mk.injEq] at H;obtain ⟨rfl,rfl⟩:=H;obtain ⟨ASz12_0,cSz12_0,HGz12,hgz12,HSz12_0⟩:=HI0.out;have hcz12_0:=cellS53_0 HGz12;have hcz12_1:=cellS53_1 HGz12;have hfz12_1:=blk_frozen HGz12 1;clear HGz12 hgz12
       have p101 : 0 ≤ ((ji9) : Int):=of_decide_eq_true (by first | (with_reducible assumption) | assumption)
       have q101 : (ji9) < (s0_0.length : Int):=of_decide_eq_true (by first | (with_reducible assumption) | assumption)
       obtain ⟨ad101,e101,hx101_0⟩:=Kd.at_int HSz12_0 (ji9) p101 q101
       cases e101
       replace hx101_0:=pw_cell_below HB.out hx101_0;replace p101:=eq_true p101;replace q101:=eq_true q101
       go_wp2
       repeat (go_quiet (fail);try go_wp2)
       go_ret
       exact ⟨by first | rfl | (simp [errW_none,errW_some] <;> rfl) | (simp only [← hji9];first | rfl | (simp [errW_none,errW_some] <;> rfl)) | (simp [*,errW_none,errW_some] <;> rfl),by repeat (first | (with_reducible first | exact HI0.out | apply IsS53.alloc | apply IsS53.drewN | apply IsS53.drew | apply IsS53.set_1) | exact HI0.out),by repeat (first | (with_reducible first | exact HB.out | apply below_alloc | apply pw_below_drewN | apply below_drew1 | refine below_set ?_ (IsS53.ge HI0.out)) | exact HB.out),by repeat (first | (with_reducible first | exact HK.out | apply KeepBut.set_ | apply keep_drewN | apply keep_drew | apply keep_alloc) | exact HK.out)⟩
     ·rw [if_neg c10] at H
      exact absurd H (by simp)
    ·rw [if_neg c8] at H;have c8b0 : decide ((Z ((Z (s0_1 + 1)) - 1)) < (s0_0.length : Int)) = false:=decide_eq_false c8;clear c8
     by_cases c13 : (s0_0.length : Int) = 0
     ·rw [if_pos c13] at H
      exact absurd H (by simp)
     ·rw [if_neg c13] at H;have c13b0 : ((s0_0.length : Int) == 0) = false:=beq_eq_false_iff_ne.mpr c13;have c13b1 : ((s0_0.length : Int) != 0) = true:=bne_iff_ne.mpr c13
      have c13b2 : ¬ (s0_0 = []):=fun h_=>c13 (by rw [h_];rfl)
      obtain ⟨ji14,hji14⟩ : ∃ j_ : Int,(Int.tmod (Z ((Z (s0_1 + 1)) - 1)) (s0_0.length : Int)) = j_:=⟨_,rfl⟩
      replace H : (if 0 ≤ (ji14) then (if (ji14) < (s0_0.length : Int) then (if 0 ≤ (Int.tmod (Z ((Z ((Z ((Z (s0_1 + 1)) - 1)) * 7)) + 3)) (s0_0.length : Int)) then (if (Int.tmod (Z ((Z ((Z ((Z (s0_1 + 1)) - 1)) * 7)) + 3)) (s0_0.length : Int)) < (s0_0.length : Int) then (if a1 = 0 then (none) else (some (Int.tmod (Go.bits .xor .i64 (Z ((Z ((Z ((Z ((Z (rd s0_0 (ji14))) * 131)) + (Z ((Z (rd s0_0 (Int.tmod (Z ((Z ((Z ((Z (s0_1 + 1)) - 1)) * 7)) + 3)) (s0_0.length : Int)))) * 1117)))) + (Z ((Z ((Z (s0_1 + 1)) - 1)) * 29)))) + (Z ((Z (Int.tdiv (Z ((Z (s0_1 + 1)) - 1)) (s0_0.length : Int))) * 53)))) (Z (Int.tdiv (Z ((Z ((Z ((Z ((Z (rd s0_0 (ji14))) * 131)) + (Z ((Z (rd s0_0 (Int.tmod (Z ((Z ((Z ((Z (s0_1 + 1)) - 1)) * 7)) + 3)) (s0_0.length : Int)))) * 1117)))) + (Z ((Z ((Z (s0_1 + 1)) - 1)) * 29)))) + (Z ((Z (Int.tdiv (Z ((Z (s0_1 + 1)) - 1)) (s0_0.length : Int))) * 53)))) 64))) a1,(Z (s0_1 + 1))))) else (none)) else (none)) else (none)) else (none)) = some (r1,r2):=by first | (rw [hji14] at H;exact H) | (simp only [hji14] at H ⊢;exact H)
      by_cases c15 : 0 ≤ (ji14)
      ·rw [if_pos c15] at H;have c15b0 : decide (0 ≤ (ji14)) = true:=decide_eq_true c15;clear c15
       by_cases c16 : (ji14) < (s0_0.length : Int)
       ·rw [if_pos c16] at H;have c16b0 : decide ((ji14) < (s0_0.length : Int)) = true:=decide_eq_true c16;clear c16;obtain ⟨ji17,hji17⟩ : ∃ j_ : Int,(Int.tmod (Z ((Z ((Z ((Z (s0_1 + 1)) - 1)) * 7)) + 3)) (s0_0.length : Int)) = j_:=⟨_,rfl⟩
        replace H : (if 0 ≤ (ji17) then (if (ji17) < (s0_0.length : Int) then (if a1 = 0 then (none) else (some (Int.tmod (Go.bits .xor .i64 (Z ((Z ((Z ((Z ((Z (rd s0_0 (ji14))) * 131)) + (Z ((Z (rd s0_0 (ji17))) * 1117)))) + (Z ((Z ((Z (s0_1 + 1)) - 1)) * 29)))) + (Z ((Z (Int.tdiv (Z ((Z (s0_1 + 1)) - 1)) (s0_0.length : Int))) * 53)))) (Z (Int.tdiv (Z ((Z ((Z ((Z ((Z (rd s0_0 (ji14))) * 131)) + (Z ((Z (rd s0_0 (ji17))) * 1117)))) + (Z ((Z ((Z (s0_1 + 1)) - 1)) * 29)))) + (Z ((Z (Int.tdiv (Z ((Z (s0_1 + 1)) - 1)) (s0_0.length : Int))) * 53)))) 64))) a1,(Z (s0_1 + 1))))) else (none)) else (none)) = some (r1,r2):=by first | (rw [hji17] at H;exact H) | (simp only [hji17] at H ⊢;exact H)
        by_cases c18 : 0 ≤ (ji17)
        ·rw [if_pos c18] at H;have c18b0 : decide (0 ≤ (ji17)) = true:=decide_eq_true c18;clear c18
         by_cases c19 : (ji17) < (s0_0.length : Int)
         ·rw [if_pos c19] at H;have c19b0 : decide ((ji17) < (s0_0.length : Int)) = true:=decide_eq_true c19;clear c19
          by_cases c20 : a1 = 0
          ·rw [if_pos c20] at H
           exact absurd H (by simp)
          ·rw [if_neg c20] at H;have c20b0 : (a1 == 0) = false:=beq_eq_false_iff_ne.mpr c20;have c20b1 : (a1 != 0) = true:=bne_iff_ne.mpr c20;simp only [Option.some.injEq,Prod.mk.injEq] at H;obtain ⟨rfl,rfl⟩:=H;obtain ⟨ASz21_0,cSz21_0,HGz21,hgz21,HSz21_0⟩:=HI0.out;have hcz21_0:=cellS53_0 HGz21;have hcz21_1:=cellS53_1 HGz21;have hfz21_1:=blk_frozen HGz21 1;clear HGz21 hgz21
           have p102 : 0 ≤ ((ji14) : Int):=of_decide_eq_true (by first | (with_reducible assumption) | assumption)
           have q102 : (ji14) < (s0_0.length : Int):=of_decide_eq_true (by first | (with_reducible assumption) | assumption)
           obtain ⟨ad102,e102,hx102_0⟩:=Kd.at_int HSz21_0 (ji14) p102 q102
           cases e102
           replace hx102_0:=pw_cell_below HB.out hx102_0;replace p102:=eq_true p102;replace q102:=eq_true q102
           have p103 : 0 ≤ ((ji17) : Int):=of_decide_eq_true (by first | (with_reducible assumption) | assumption)
           have q103 : (ji17) < (s0_0.length : Int):=of_decide_eq_true (by first | (with_reducible assumption) | assumption)
           obtain ⟨ad103,e103,hx103_0⟩:=Kd.at_int HSz21_0 (ji17) p103 q103
           obtain rfl : ad102 = ad103:=(by injection e103)
           replace hx103_0:=pw_cell_below HB.out hx103_0;replace p103:=eq_true p103;replace q103:=eq_true q103
           go_wp2
           repeat (go_quiet (fail);try go_wp2)
           go_ret
           exact ⟨by first | rfl | (simp [errW_none,errW_some] <;> rfl) | (simp only [← hji14,← hji17];first | rfl | (simp [errW_none,errW_some] <;> rfl)) | (simp [*,errW_none,errW_some] <;> rfl),by repeat (first | (with_reducible first | exact HI0.out | apply IsS53.alloc | apply IsS53.drewN | apply IsS53.drew | apply IsS53.set_1) | exact HI0.out),by repeat (first | (with_reducible first | exact HB.out | apply below_alloc | apply pw_below_drewN | apply below_drew1 | refine below_set ?_ (IsS53.ge HI0.out)) | exact HB.out),by repeat (first | (with_reducible first | exact HK.out | apply KeepBut.set_ | apply keep_drewN | apply keep_drew | apply keep_alloc) | exact HK.out)⟩
         ·rw [if_neg c19] at H
          exact absurd H (by simp)
        ·rw [if_neg c18] at H
         exact absurd H (by simp)
       ·rw [if_neg c16] at H
        exact absurd H (by simp)
      ·rw [if_neg c15] at H
       exact absurd H (by simp)
def spec_l11Rd_num.f (k : Nat) (s0_0 : List Int) (s0_1 : Int) (l1 : List Int) : Option (Int × Int):=(spec_l11Rd_pick.f k s0_0 s0_1 (l1.length : Int)).bind fun bt104=>(if 0 ≤ bt104.1 then (if bt104.1 < (l1.length : Int) then (some (rd l1 bt104.1,bt104.2)) else (none)) else (none))
set_option maxHeartbeats 8000000 in
set_option maxRecDepth 100000 in
theorem spec_l11Rd_num.calls (k : Nat) (g : Nat) (s0_0 : List Int) (s0_1 : Int) (A1 : Option Addr) (c1 : Nat) (l1 : List Int) (r1 : Int) (r2 : Int) (w0 w : World) (hI : IsS53 w0 w g s0_0 s0_1) (hB : Below w0.heap.size w0 w) (hr1 : Kd.C (Kd.int .i64) w A1 l1.length l1) (hc1 : l1.length ≤ c1) (hf1 : ∀ ad,A1 = some ad → 0 < l1.length → ad.block ≠ g) (h : spec_l11Rd_num.f k s0_0 s0_1 l1 = some (r1,r2)) :
  Calls Try.prog 21 #[.pointer (some ⟨g,0,none⟩),.slice A1 l1.length c1] w fun e w'=>e = .returned (.int .i64 r1) ∧ IsS53 w0 w' g s0_0 r2 ∧ Below w0.heap.size w0 w' ∧ KeepBut w w' g none:=by
 have HR1:=O hr1;have HC1:=O hc1;clear hr1 hc1;have HI0:=O hI;have HK:=O (KeepBut.refl w g none);have HL:=O hB.size;clear hI;have HW0:=O hB.size;have HB:=O hB;clear hB;have H : ((spec_l11Rd_pick.f k s0_0 s0_1 (l1.length : Int)).bind fun bt104=>(if 0 ≤ bt104.1 then (if bt104.1 < (l1.length : Int) then (some (rd l1 bt104.1,bt104.2)) else (none)) else (none))) = some (r1,r2):=h;clear h;replace H:=Option.bind_eq_some_iff.mp H;obtain ⟨⟨t104,t105⟩,A30,H⟩:=H;replace H : (if 0 ≤ t104 then (if t104 < (l1.length : Int) then (some (rd l1 t104,t105)) else (none)) else (none)) = some (r1,r2):=H;have A3:=O A30;clear A30
 by_cases c4 : 0 ≤ t104
 ·rw [if_pos c4] at H;have c4b0 : decide (0 ≤ t104) = true:=decide_eq_true c4;clear c4
  by_cases c5 : t104 < (l1.length : Int)
  ·rw [if_pos c5] at H;have c5b0 : decide (t104 < (l1.length : Int)) = true:=decide_eq_true c5;clear c5;simp only [Option.some.injEq,Prod.mk.injEq] at H;obtain ⟨rfl,rfl⟩:=H;go_enter Try.func21,Try.ntmps21
   go_wp2_with (first | ((with_reducible refine gate_callee (f:=18) rfl ?_);refine goesM_ (some 9) Try.func18 #[.pointer (some ⟨g,0,none⟩),.int .i64 (l1.length : Int)] ?_;(with_reducible refine (spec_l11Rd_pick.calls k g s0_0 s0_1 (l1.length : Int) t104 t105 w0 _ ?side1 ?side2 A3.out).mono ?_);(case side1=>exact q0_ HI0);(case side2=>exact q1_ HB HI0);rintro e w6 ⟨rfl,hi,hb,hk⟩;refine ⟨_,rfl,?_⟩;have n0_:=O (KeepBut.trans (q2_ HK) hk (.inl rfl));have n1_:=O (hb);have n2_:=O (hi);clear HK HB HI0;have HK:=n0_;have HB:=n1_;have HI0:=n2_;clear n0_ n1_ n2_;(try clear hb);(try clear hk);(try clear hi);have p106 : 0 ≤ (t104 : Int):=of_decide_eq_true (by first | (with_reducible assumption) | assumption);have q106 : t104 < (l1.length : Int):=of_decide_eq_true (by first | (with_reducible assumption) | assumption);obtain ⟨ad106,e106,hx106_0⟩:=Kd.at_int HR1.out t104 p106 q106;cases e106;replace hx106_0:=keep_cell HK.out hx106_0 (by first | (rw [add_block];exact hf1 _ rfl (by omega)) | exact hf1 _ rfl (by omega) | exact hf1 ad106 rfl (by omega));replace p106:=eq_true p106;replace q106:=eq_true q106))
   go_ret
   exact ⟨by first | rfl | (simp [errW_none,errW_some] <;> rfl) | (simp [*,errW_none,errW_some] <;> rfl),by repeat (first | (with_reducible first | exact HI0.out | apply IsS53.alloc | apply IsS53.drewN | apply IsS53.drew | apply IsS53.set_1) | exact HI0.out),by repeat (first | (with_reducible first | exact HB.out | apply below_alloc | apply pw_below_drewN | apply below_drew1 | refine below_set ?_ (IsS53.ge HI0.out)) | exact HB.out),by repeat (first | (with_reducible first | exact HK.out | apply KeepBut.set_ | apply keep_drewN | apply keep_drew | apply keep_alloc) | exact HK.out)⟩
  ·rw [if_neg c5] at H
   exact absurd H (by simp)
 ·rw [if_neg c4] at H
  exact absurd H (by simp)
def spec_l11Open.f (l0 : List Int) : Option (List Int × Int):=if (l0.length : Int) > 2000 then (if 2000 ≤ (l0.length : Int) then (some (l0.take 2000,0)) else (none)) else (some (l0,0))
set_option maxHeartbeats 8000000 in
set_option maxRecDepth 100000 in
theorem spec_l11Open.calls (A0 : Option Addr) (c0 : Nat) (l0 : List Int) (r1 : List Int) (r2 : Int) (w0 w : World) (hB : Below w0.heap.size w0 w) (hr0 : Kd.C (Kd.int .u8) w0 A0 l0.length l0) (hc0 : l0.length ≤ c0) (h : spec_l11Open.f l0 = some (r1,r2)) :
  Calls Try.prog 9 #[.slice A0 l0.length c0] w fun e w'=>∃ g_ : Nat,e = .returned (.pointer (some ⟨g_,0,none⟩)) ∧ IsS53 w0 w' g_ r1 r2 ∧ Below w0.heap.size w0 w' ∧ Below w.heap.size w w':=by
 have hu53:=Try.underlying53;have HR0:=O hr0;have HC0:=O hc0;clear hr0 hc0;have HBW:=O (Below.refl w.heap.size w);have HW0:=O hB.size;have HB:=O hB;clear hB;have H : (if (l0.length : Int) > 2000 then (if 2000 ≤ (l0.length : Int) then (some (l0.take 2000,0)) else (none)) else (some (l0,0))) = some (r1,r2):=h;clear h
 by_cases c2 : (l0.length : Int) > 2000
 ·rw [if_pos c2] at H;have c2b0 : decide (2000 < (l0.length : Int)) = true:=decide_eq_true c2
  have c2b1 : decide (2000 < l0.length) = true:=decide_eq_true (by omega)
  clear c2
  by_cases c3 : 2000 ≤ (l0.length : Int)
  ·rw [if_pos c3] at H;have c3b0:=eq_true c3;have c3b1 : decide (2000 ≤ (l0.length : Int)) = true:=decide_eq_true c3;clear c3;simp only [Option.some.injEq,Prod.mk.injEq] at H;obtain ⟨rfl,rfl⟩:=H;obtain ⟨i04,hi04,_,hsz4,_⟩:=info_parts info5
   obtain ⟨hcut4,hA4,hC4⟩:=print_take_of (P:=Try.prog) (Value.int .u8) 0 22 5 .i64 Try.underlying22 hi04 hsz4 A0 c0 l0 2000 (by omega) (of_decide_eq_true (by first | (with_reducible assumption) | assumption)) HC0.out
   have HR392:=O (Kd.C_of_reads (h1:=fun _=>rfl) (hA4 _ (Kd.reads_of_C HR0.out)));have HC392:=O hC4;clear hA4 hC4 hi04 hsz4;go_enter Try.func9,Try.ntmps9
   go_wp2_with (first | ((with_reducible refine gate_dst (N:=10) rfl ?_);refine box_event ?hg (N:=10) ?hd (cs:=#[.slice A0 (l0.take 2000).length c0,.int .i64 0]) (t:=53) ?hr ?_;(case hd=>rfl);(case hg=>rfl);(case hr=>first | (go_simp;done) | (go_simp;rfl));intro gb393 hg w5 hbox hb;have n0_:=O (below_step HBW.out hb);have n1_:=O (below_step (q3_ HB) hb);have n2_:=O (hbox);have n3_:=O ((by rw [hg];exact (below_size (q3_ HBW)) : w.heap.size ≤ gb393));have n4_:=O ((Nat.le_trans HW0.out (by rw [hg];exact (below_size (q3_ HBW)) : w.heap.size ≤ gb393) : w0.heap.size ≤ gb393));clear HBW HB;have HBW:=n0_;have HB:=n1_;have BK393:=n2_;have GW393:=n3_;have GE393:=n4_;clear n0_ n1_ n2_ n3_ n4_ hb hbox hg))
   go_ret
   exact ⟨_,rfl,(show IsS53 w0 _ gb393 (l0.take 2000) 0 from ⟨_,_,by (with_reducible repeat (first | refine blk_drewN ?_ _ | refine blk_drew ?_ | refine blk_alloc ?_ _));exact BK393.out,GE393.out,HR392.out⟩),by repeat (first | (with_reducible first | exact HB.out | apply below_alloc | apply pw_below_drewN | apply below_drew1 | refine below_set ?_ GE393.out) | exact HB.out),by repeat (first | (with_reducible first | exact HBW.out | apply below_alloc | apply pw_below_drewN | apply below_drew1 | refine below_set ?_ GW393.out) | exact HBW.out)⟩
  ·rw [if_neg c3] at H
   exact absurd H (by simp)
 ·rw [if_neg c2] at H;have c2b0 : decide (2000 < (l0.length : Int)) = false:=decide_eq_false c2
  have c2b1 : decide (2000 < l0.length) = false:=decide_eq_false (by omega)
  clear c2;simp only [Option.some.injEq,Prod.mk.injEq] at H;obtain ⟨rfl,rfl⟩:=H;go_enter Try.func9,Try.ntmps9
  go_wp2_with (first | ((with_reducible refine gate_dst (N:=10) rfl ?_);refine box_event ?hg (N:=10) ?hd (cs:=#[.slice A0 l0.length c0,.int .i64 0]) (t:=53) ?hr ?_;(case hd=>rfl);(case hg=>rfl);(case hr=>first | (go_simp;done) | (go_simp;rfl));intro gb394 hg w6 hbox hb;have n0_:=O (below_step HBW.out hb);have n1_:=O (below_step (q3_ HB) hb);have n2_:=O (hbox);have n3_:=O ((by rw [hg];exact (below_size (q3_ HBW)) : w.heap.size ≤ gb394));have n4_:=O ((Nat.le_trans HW0.out (by rw [hg];exact (below_size (q3_ HBW)) : w.heap.size ≤ gb394) : w0.heap.size ≤ gb394));clear HBW HB;have HBW:=n0_;have HB:=n1_;have BK394:=n2_;have GW394:=n3_;have GE394:=n4_;clear n0_ n1_ n2_ n3_ n4_ hb hbox hg))
  go_ret
  exact ⟨_,rfl,(show IsS53 w0 _ gb394 l0 0 from ⟨_,_,by (with_reducible repeat (first | refine blk_drewN ?_ _ | refine blk_drew ?_ | refine blk_alloc ?_ _));exact BK394.out,GE394.out,HR0.out⟩),by repeat (first | (with_reducible first | exact HB.out | apply below_alloc | apply pw_below_drewN | apply below_drew1 | refine below_set ?_ GE394.out) | exact HB.out),by repeat (first | (with_reducible first | exact HBW.out | apply below_alloc | apply pw_below_drewN | apply below_drew1 | refine below_set ?_ GW394.out) | exact HBW.out)⟩
end Go.Proofs.Ythgdapgophkklaa.P

namespace Go.Proofs.Ythgdapgophkklaa.P
open Go.RowKit Go.Proofs.YthgdapgophkklaaW.PrintWords Go.Proofs.YthgdapgophkklaaW.PrintLast Go.Proofs.YthgdapgophkklaaW.PrintMore
open Bool renaming true → O, false → Z
open Go.Proofs.YthgdapgophkklaaW.PrintWords renaming Aside0.mk → J, pw_below_drewN → Y
open List renaming setIfInBounds_toArray → E, set_cons_zero → U, set_cons_succ → G
open Go renaming World.block_lt_of_cell? → X
open Go.RowKit renaming wrap64 → Q
attribute [local go_sem] max2_int min2_int max_two min_two max_three min_three max_four min_four
set_option linter.unusedVariables false
set_option linter.unusedSimpArgs false
mutual
def spec_l2Many.l0 : Nat → List (S41) → Int → Int → Int → Option (Int)
 | 0,_,_,_,_=>none
 | k + 1,x0,x1,x5,x6=>if x6 < (x0.length : Int) then (spec_l2Many.j1 k x0 x1 x5 x6 (decide (x1 > 0))) else (spec_l2Many.j1 k x0 x1 x5 x6 false)
def spec_l2Many.j1 : Nat → List (S41) → Int → Int → Int → Bool → Option (Int)
 | 0,_,_,_,_,_=>none
 | k + 1,x0,x1,x5,x6,x14=>if x14 = true then (if 0 ≤ x6 then (if x6 < (x0.length : Int) then ((spec_l2Many.f k ((rd_T41 x0 x6).f4) (Q (x1 - 1))).bind fun t117=>((spec_l2Many.f k ((rd_T41 x0 x6).f5) (Q (x1 - 1))).bind fun t119=>(spec_l2Many.l0 k x0 x1 (Q ((Q ((Q (x5 + 1)) + t117)) + t119)) (Q (x6 + 1))))) else (none)) else (none)) else (some x5)
def spec_l2Many.f : Nat → List (S41) → Int → Option (Int)
 | 0,_,_=>none
 | k + 1,l0,a1=>spec_l2Many.l0 k l0 a1 0 0
end
def spec_l2Many.T5 : Bool × List (List Nat × List Nat):=(true,[([],[]),([0],[0]),([],[]),([],[]),([2,3],[2,3]),([4],[4]),([5],[5]),([],[]),([7],[7]),([6,8],[6,8]),([1,9],[1,9]),([],[]),([],[]),([11,12],[11,12]),([13],[13]),([14],[14]),([],[]),([16],[16]),([15,17,9],[15,17]),([10,18],[10,18]),([19,18,0,1,2,3,4,5,6,7,8,9,10,11,12,13,14,15,16,17,18,19],[0,19])])
def spec_l2Many.B5 : List Nat:=[0,1,0,0,12,28,60,0,128,508,1023,0,0,6144,14336,30720,0,65536,261116,524287,1048575]
theorem spec_l2Many.tab5 : rtab .any (opsOf Try.f34 5) = spec_l2Many.T5:=by kernel_rfl
theorem spec_l2Many.bits5 : waitsOk spec_l2Many.T5.2 spec_l2Many.B5 = true:=by kernel_rfl
set_option maxHeartbeats 8000000 in
set_option maxRecDepth 100000 in
theorem spec_l2Many.calls (k : Nat) : ∀ (A0 : Option Addr) (c0 : Nat) (l0 : List (S41)) (a1 : Int) (r : Int) (w : World) (hr0 : Kd.C k41 w A0 l0.length l0) (hc0 : l0.length ≤ c0) (h : spec_l2Many.f k l0 a1 = some r),
  Calls Try.prog 34 #[.slice A0 l0.length c0,.int .i64 a1] w fun e w'=>e = .returned (.int .i64 r) ∧ Below w.heap.size w w':=by
 induction k using Nat.strongRecOn with
 | _ k ih =>
 intro A0 c0 l0 a1 r w hr0 hc0 h
 cases k with
 | zero=>exact absurd h (by simp [spec_l2Many.f])
 | succ k =>
 simp only [spec_l2Many.f] at h;have HR0:=J hr0;have HC0:=J hc0;clear hr0 hc0;have HB:=J (Below.refl w.heap.size w);have H : (spec_l2Many.l0 k l0 a1 0 0) = some r:=h;clear h;have H':=J H;clear H;go_enter Try.func34,Try.ntmps34
 go_wp2
 go_loopg [5,6] k (fun kq v5 v6 w'=>∃ (x5_1 : Int) (x6_1 : Int),v5 = .int .i64 x5_1 ∧ v6 = .int .i64 x6_1 ∧ Aside0 (spec_l2Many.l0 kq l0 a1 x5_1 x6_1 = some r) ∧ Aside0 (kq ≤ k) ∧ Aside0 (Below w.heap.size w w'))
 case atStart=>exact ⟨(0),(0),(by first | rfl | (simp;done) | (simp [*];done)),(by first | rfl | (simp;done) | (simp [*];done)),H',⟨Nat.le_refl _⟩,⟨by repeat (first | (with_reducible first | exact HB.out | apply below_alloc | apply Y | apply below_drew1) | exact HB.out)⟩⟩
 case round =>
  clear H';(try clear p2);obtain ⟨x5_1,x6_1,rfl,rfl,HA,HK1,HB⟩:=hrel
  cases gk with
  | zero=>exact absurd HA.out (by simp [spec_l2Many.l0])
  | succ k1 =>
   have H:=HA.out;clear HA;simp only [spec_l2Many.l0] at H;have HC3:=J H;clear H
   go_upto_region 3 with (fail)
   go_cut [14] (fun v14 wc=>∃ (kq : Nat) (x14_2 : Bool),v14 = .bool x14_2 ∧ Aside0 (spec_l2Many.j1 kq l0 a1 x5_1 x6_1 x14_2 = some r) ∧ Aside0 (kq ≤ k1) ∧ Aside0 (Below w.heap.size w wc))
   case first =>
    have H:=HC3.out;clear HC3
    by_cases c4 : x6_1 < (l0.length : Int)
    ·rw [if_pos c4] at H;have c4b0 : decide (x6_1 < (l0.length : Int)) = true:=decide_eq_true c4;clear c4
     (first | rw [c4b0] | (simp only [i64_w,i32_w];rw [c4b0]) | skip)
     have H':=J H;clear H
     go_wp2
     go_meet
     case rel=>exact ⟨_,(decide (a1 > 0)),(by first | rfl | (simp;done) | (simp [*];done)),H',⟨by have:=HK1.out;first | omega | exact Nat.le_refl _⟩,⟨by repeat (first | (with_reducible first | exact HB.out | apply below_alloc | apply Y | apply below_drew1) | exact HB.out)⟩⟩
    ·rw [if_neg c4] at H;have c4b0 : decide (x6_1 < (l0.length : Int)) = false:=decide_eq_false c4;clear c4
     (first | rw [c4b0] | (simp only [i64_w,i32_w];rw [c4b0]) | skip)
     have H':=J H;clear H
     go_wp2
     go_meet
     case rel=>exact ⟨_,(false),(by first | rfl | (simp;done) | (simp [*];done)),H',⟨by have:=HK1.out;first | omega | exact Nat.le_refl _⟩,⟨by repeat (first | (with_reducible first | exact HB.out | apply below_alloc | apply Y | apply below_drew1) | exact HB.out)⟩⟩
   case rest =>
    clear HC3;(try clear p2);(try clear c3);(try clear c4);(try clear c4b0);(try clear p2);obtain ⟨kq,x14_2,rfl,HA,HJ2,HB⟩:=hcut
    cases kq with
    | zero=>exact absurd HA.out (by simp [spec_l2Many.j1])
    | succ kj2 =>
     have H:=HA.out;clear HA;simp only [spec_l2Many.j1] at H
     by_cases c5 : x14_2 = true
     ·subst c5
      have H1 : (if 0 ≤ x6_1 then (if x6_1 < (l0.length : Int) then ((spec_l2Many.f kj2 ((rd_T41 l0 x6_1).f4) (Q (a1 - 1))).bind fun t117=>((spec_l2Many.f kj2 ((rd_T41 l0 x6_1).f5) (Q (a1 - 1))).bind fun t119=>(spec_l2Many.l0 kj2 l0 a1 (Q ((Q ((Q (x5_1 + 1)) + t117)) + t119)) (Q (x6_1 + 1))))) else (none)) else (none)) = some r:=by rw [if_pos rfl] at H;exact H
      clear H;have H:=H1;clear H1
      by_cases c6 : 0 ≤ x6_1
      ·rw [if_pos c6] at H;have c6b0 : decide (0 ≤ x6_1) = true:=decide_eq_true c6;clear c6
       by_cases c7 : x6_1 < (l0.length : Int)
       ·rw [if_pos c7] at H;have c7b0 : decide (x6_1 < (l0.length : Int)) = true:=decide_eq_true c7;clear c7;replace H:=Option.bind_eq_some_iff.mp H;obtain ⟨t117,A80,H⟩:=H;replace H : ((spec_l2Many.f kj2 ((rd_T41 l0 x6_1).f5) (Q (a1 - 1))).bind fun t119=>(spec_l2Many.l0 kj2 l0 a1 (Q ((Q ((Q (x5_1 + 1)) + t117)) + t119)) (Q (x6_1 + 1)))) = some r:=H;have A8:=J A80;clear A80;replace H:=Option.bind_eq_some_iff.mp H;obtain ⟨t119,A90,H⟩:=H;replace H : (spec_l2Many.l0 kj2 l0 a1 (Q ((Q ((Q (x5_1 + 1)) + t117)) + t119)) (Q (x6_1 + 1))) = some r:=H;have A9:=J A90;clear A90;have H':=J H;clear H
        try go_wp2
        have n0_:=J (below_drew1 HB.out);clear HB;have HB:=n0_;clear n0_
        have p116 : 0 ≤ (x6_1 : Int):=of_decide_eq_true (by first | (with_reducible assumption) | assumption)
        have q116 : x6_1 < (l0.length : Int):=of_decide_eq_true (by first | (with_reducible assumption) | assumption)
        obtain ⟨ad116,A116_4,c116_4,A116_5,c116_5,e116,hx116_0,hx116_1,hx116_2,hx116_3,hx116_4,hx116_5,hl116_4,hi116_4,hl116_5,hi116_5⟩:=at_T41 HR0.out x6_1 p116 q116;have hw116_5:=hx116_5;have hw116_4:=hx116_4;have hw116_3:=hx116_3;have hw116_2:=hx116_2;have hw116_1:=hx116_1;have hw116_0:=hx116_0
        cases e116
        replace hx116_0:=(HB.out.cell (X w _ hx116_0)).trans hx116_0;replace hx116_1:=(HB.out.cell (X w _ hx116_1)).trans hx116_1;replace hx116_2:=(HB.out.cell (X w _ hx116_2)).trans hx116_2;replace hx116_3:=(HB.out.cell (X w _ hx116_3)).trans hx116_3;replace hx116_4:=(HB.out.cell (X w _ hx116_4)).trans hx116_4;replace hx116_5:=(HB.out.cell (X w _ hx116_5)).trans hx116_5;have HR116_4:=J hi116_4;have HC116_4:=J hl116_4;clear hi116_4 hl116_4;have HR116_5:=J hi116_5;have HC116_5:=J hl116_5;clear hi116_5 hl116_5;replace p116:=eq_true p116;replace q116:=eq_true q116
        have p118 : 0 ≤ (x6_1 : Int):=of_decide_eq_true (by first | (with_reducible assumption) | assumption)
        have q118 : x6_1 < (l0.length : Int):=of_decide_eq_true (by first | (with_reducible assumption) | assumption)
        obtain ⟨ad118,A118_4,c118_4,A118_5,c118_5,e118,hx118_0,hx118_1,hx118_2,hx118_3,hx118_4,hx118_5,hl118_4,hi118_4,hl118_5,hi118_5⟩:=at_T41 HR0.out x6_1 p118 q118;have hw118_5:=hx118_5;have hw118_4:=hx118_4;have hw118_3:=hx118_3;have hw118_2:=hx118_2;have hw118_1:=hx118_1;have hw118_0:=hx118_0
        obtain rfl : ad116 = ad118:=(by injection e118)
        replace hx118_0:=(HB.out.cell (X w _ hx118_0)).trans hx118_0;replace hx118_1:=(HB.out.cell (X w _ hx118_1)).trans hx118_1;replace hx118_2:=(HB.out.cell (X w _ hx118_2)).trans hx118_2;replace hx118_3:=(HB.out.cell (X w _ hx118_3)).trans hx118_3;replace hx118_4:=(HB.out.cell (X w _ hx118_4)).trans hx118_4;replace hx118_5:=(HB.out.cell (X w _ hx118_5)).trans hx118_5;have HR118_4:=J hi118_4;have HC118_4:=J hl118_4;clear hi118_4 hl118_4;have HR118_5:=J hi118_5;have HC118_5:=J hl118_5;clear hi118_5 hl118_5;replace p118:=eq_true p118;replace q118:=eq_true q118;have ea_:=Option.some.inj (hx116_4.symm.trans hx118_4)
        injection ea_ with ea_ en_ ec_
        subst ea_;subst ec_;clear en_;have ea_:=Option.some.inj (hx116_5.symm.trans hx118_5)
        injection ea_ with ea_ en_ ec_
        subst ea_;subst ec_;clear en_
        refine start_ (n:=21) (S:=fun w'=>w'.cell? (ad116.add ((x6_1).toNat * 6)) = some (.int .i64 ((rd_T41 l0 x6_1).f0)) ∧ w'.cell? ⟨(ad116.add ((x6_1).toNat * 6)).block,(ad116.add ((x6_1).toNat * 6)).off + 1,none⟩ = some (.int .i64 ((rd_T41 l0 x6_1).f1)) ∧ w'.cell? ⟨(ad116.add ((x6_1).toNat * 6)).block,(ad116.add ((x6_1).toNat * 6)).off + 2,none⟩ = some (.int .i64 ((rd_T41 l0 x6_1).f2)) ∧ w'.cell? ⟨(ad116.add ((x6_1).toNat * 6)).block,(ad116.add ((x6_1).toNat * 6)).off + 3,none⟩ = some (.int .i64 ((rd_T41 l0 x6_1).f3)) ∧ w'.cell? ⟨(ad116.add ((x6_1).toNat * 6)).block,(ad116.add ((x6_1).toNat * 6)).off + 4,none⟩ = some (.slice A116_4 ((rd_T41 l0 x6_1).f4).length c116_4) ∧ w'.cell? ⟨(ad116.add ((x6_1).toNat * 6)).block,(ad116.add ((x6_1).toNat * 6)).off + 5,none⟩ = some (.slice A116_5 ((rd_T41 l0 x6_1).f5).length c116_5) ∧ w'.cell? (ad116.add ((x6_1).toNat * 6)) = some (.int .i64 ((rd_T41 l0 x6_1).f0)) ∧ w'.cell? ⟨(ad116.add ((x6_1).toNat * 6)).block,(ad116.add ((x6_1).toNat * 6)).off + 1,none⟩ = some (.int .i64 ((rd_T41 l0 x6_1).f1)) ∧ w'.cell? ⟨(ad116.add ((x6_1).toNat * 6)).block,(ad116.add ((x6_1).toNat * 6)).off + 2,none⟩ = some (.int .i64 ((rd_T41 l0 x6_1).f2)) ∧ w'.cell? ⟨(ad116.add ((x6_1).toNat * 6)).block,(ad116.add ((x6_1).toNat * 6)).off + 3,none⟩ = some (.int .i64 ((rd_T41 l0 x6_1).f3)) ∧ w'.cell? ⟨(ad116.add ((x6_1).toNat * 6)).block,(ad116.add ((x6_1).toNat * 6)).off + 4,none⟩ = some (.slice A116_4 ((rd_T41 l0 x6_1).f4).length c116_4) ∧ w'.cell? ⟨(ad116.add ((x6_1).toNat * 6)).block,(ad116.add ((x6_1).toNat * 6)).off + 5,none⟩ = some (.slice A116_5 ((rd_T41 l0 x6_1).f5).length c116_5)) (ds:=[]) #[Z,Z,Z,Z,Z,Z,Z,Z,Z,Z,Z,Z,Z,Z,Z,Z,Z,Z,Z,Z,Z] (by kernel_rfl) rfl rfl ⟨((HB.out.cell (X w _ hw116_0)).trans hw116_0),((HB.out.cell (X w _ hw116_1)).trans hw116_1),((HB.out.cell (X w _ hw116_2)).trans hw116_2),((HB.out.cell (X w _ hw116_3)).trans hw116_3),((HB.out.cell (X w _ hw116_4)).trans hw116_4),((HB.out.cell (X w _ hw116_5)).trans hw116_5),((HB.out.cell (X w _ hw118_0)).trans hw118_0),((HB.out.cell (X w _ hw118_1)).trans hw118_1),((HB.out.cell (X w _ hw118_2)).trans hw118_2),((HB.out.cell (X w _ hw118_3)).trans hw118_3),((HB.out.cell (X w _ hw118_4)).trans hw118_4),((HB.out.cell (X w _ hw118_5)).trans hw118_5)⟩ (fun hHeld=>?_);refine with_tabW spec_l2Many.tab5 spec_l2Many.bits5 (fun HT_ HW_=>?_)
        generalize wc.drew = w10 at HB HR116_4 HR116_5 HR118_4 HR118_5 hx116_0 hx116_1 hx116_2 hx116_3 hx116_4 hx116_5 hx118_0 hx118_1 hx118_2 hx118_3 hx118_4 hx118_5 hHeld ⊢
        refine pure_ (i:=0) (N:=some 17) (v:=?_) (a':=?_) #[O,Z,Z,Z,Z,Z,Z,Z,Z,Z,Z,Z,Z,Z,Z,Z,Z,Z,Z,Z,Z] rfl rfl (any_of HT_.out (by kernel_rfl)) (fun _ _ _ h=>h) (Or.inl ⟨by rfl,?_⟩) ?_ ?_;rotate_left;(intro w';go_simp;with_reducible rfl);rotate_left;((try simp only [Act.put,E,U,G,i64_w,i32_w]);rfl)
        refine pure_ (i:=1) (N:=some 18) (v:=?_) (a':=?_) #[O,O,Z,Z,Z,Z,Z,Z,Z,Z,Z,Z,Z,Z,Z,Z,Z,Z,Z,Z,Z] rfl rfl (any_of HT_.out (by kernel_rfl)) (fun _ _ _ h=>h) (Or.inl ⟨by rfl,?_⟩) ?_ ?_;rotate_left;(intro w';go_simp;with_reducible rfl);rotate_left;((try simp only [Act.put,E,U,G,i64_w,i32_w]);rfl)
        refine pure_ (i:=2) (N:=some 19) (v:=?_) (a':=?_) #[O,O,O,Z,Z,Z,Z,Z,Z,Z,Z,Z,Z,Z,Z,Z,Z,Z,Z,Z,Z] rfl rfl (any_of HT_.out (by kernel_rfl)) (fun _ _ _ h=>h) (Or.inl ⟨by rfl,?_⟩) ?_ ?_;rotate_left;(intro w';go_simp;with_reducible rfl);rotate_left;((try simp only [Act.put,E,U,G,i64_w,i32_w]);rfl)
        refine pure_ (i:=3) (N:=some 20) (v:=?_) (a':=?_) #[O,O,O,O,Z,Z,Z,Z,Z,Z,Z,Z,Z,Z,Z,Z,Z,Z,Z,Z,Z] rfl rfl (any_of HT_.out (by kernel_rfl)) (fun _ _ _ h=>h) (Or.inl ⟨by rfl,?_⟩) ?_ ?_;rotate_left;(intro w';go_simp;with_reducible rfl);rotate_left;((try simp only [Act.put,E,U,G,i64_w,i32_w]);rfl)
        refine pure_ (i:=4) (N:=some 21) (v:=?_) (a':=?_) #[O,O,O,O,O,Z,Z,Z,Z,Z,Z,Z,Z,Z,Z,Z,Z,Z,Z,Z,Z] rfl rfl (any_of HT_.out (by kernel_rfl)) (fun _ _ _ h=>h) (Or.inl ⟨by rfl,?_⟩) ?_ ?_;rotate_left;(intro w';go_simp;with_reducible rfl);rotate_left;((try simp only [Act.put,E,U,G,i64_w,i32_w]);rfl)
        refine pure_ (i:=5) (N:=some 22) (v:=?_) (a':=?_) #[O,O,O,O,O,O,Z,Z,Z,Z,Z,Z,Z,Z,Z,Z,Z,Z,Z,Z,Z] rfl rfl (any_of HT_.out (by kernel_rfl)) (fun _ _ _ h=>h) (Or.inl ⟨by rfl,?_⟩) ?_ ?_;rotate_left;(intro w';go_simp;with_reducible rfl);rotate_left;((try simp only [Act.put,E,U,G,i64_w,i32_w]);rfl)
        refine pure_ (i:=7) (N:=some 24) (v:=?_) (a':=?_) #[O,O,O,O,O,O,Z,O,Z,Z,Z,Z,Z,Z,Z,Z,Z,Z,Z,Z,Z] rfl rfl (any_of HT_.out (by kernel_rfl)) (fun _ _ _ h=>h) (Or.inl ⟨by rfl,?_⟩) ?_ ?_;rotate_left;(intro w';go_simp;with_reducible rfl);rotate_left;((try simp only [Act.put,E,U,G,i64_w,i32_w]);rfl)
        refine pure_ (i:=8) (N:=some 25) (v:=?_) (a':=?_) #[O,O,O,O,O,O,Z,O,O,Z,Z,Z,Z,Z,Z,Z,Z,Z,Z,Z,Z] rfl rfl (any_of HT_.out (by kernel_rfl)) (fun _ _ _ h=>h) (Or.inl ⟨by rfl,?_⟩) ?_ ?_;rotate_left;(intro w';go_simp;with_reducible rfl);rotate_left;((try simp only [Act.put,E,U,G,i64_w,i32_w]);rfl)
        refine pure_ (i:=11) (N:=some 28) (v:=?_) (a':=?_) #[O,O,O,O,O,O,Z,O,O,Z,Z,O,Z,Z,Z,Z,Z,Z,Z,Z,Z] rfl rfl (any_of HT_.out (by kernel_rfl)) (fun _ _ _ h=>h) (Or.inl ⟨by rfl,?_⟩) ?_ ?_;rotate_left;(intro w';go_simp;with_reducible rfl);rotate_left;((try simp only [Act.put,E,U,G,i64_w,i32_w]);rfl)
        refine pure_ (i:=12) (N:=some 29) (v:=?_) (a':=?_) #[O,O,O,O,O,O,Z,O,O,Z,Z,O,O,Z,Z,Z,Z,Z,Z,Z,Z] rfl rfl (any_of HT_.out (by kernel_rfl)) (fun _ _ _ h=>h) (Or.inl ⟨by rfl,?_⟩) ?_ ?_;rotate_left;(intro w';go_simp;with_reducible rfl);rotate_left;((try simp only [Act.put,E,U,G,i64_w,i32_w]);rfl)
        refine pure_ (i:=13) (N:=some 30) (v:=?_) (a':=?_) #[O,O,O,O,O,O,Z,O,O,Z,Z,O,O,O,Z,Z,Z,Z,Z,Z,Z] rfl rfl (any_of HT_.out (by kernel_rfl)) (fun _ _ _ h=>h) (Or.inl ⟨by rfl,?_⟩) ?_ ?_;rotate_left;(intro w';go_simp;with_reducible rfl);rotate_left;((try simp only [Act.put,E,U,G,i64_w,i32_w]);rfl)
        refine pure_ (i:=14) (N:=some 31) (v:=?_) (a':=?_) #[O,O,O,O,O,O,Z,O,O,Z,Z,O,O,O,O,Z,Z,Z,Z,Z,Z] rfl rfl (any_of HT_.out (by kernel_rfl)) (fun _ _ _ h=>h) (Or.inl ⟨by rfl,?_⟩) ?_ ?_;rotate_left;(intro w';go_simp;with_reducible rfl);rotate_left;((try simp only [Act.put,E,U,G,i64_w,i32_w]);rfl)
        refine pure_ (i:=16) (N:=some 33) (v:=?_) (a':=?_) #[O,O,O,O,O,O,Z,O,O,Z,Z,O,O,O,O,Z,O,Z,Z,Z,Z] rfl rfl (any_of HT_.out (by kernel_rfl)) (fun _ _ _ h=>h) (Or.inl ⟨by rfl,?_⟩) ?_ ?_;rotate_left;(intro w';go_simp;with_reducible rfl);rotate_left;((try simp only [Act.put,E,U,G,i64_w,i32_w]);rfl)
        refine pure_ (i:=17) (N:=some 34) (v:=?_) (a':=?_) #[O,O,O,O,O,O,Z,O,O,Z,Z,O,O,O,O,Z,O,O,Z,Z,Z] rfl rfl (any_of HT_.out (by kernel_rfl)) (fun _ _ _ h=>h) (Or.inl ⟨by rfl,?_⟩) ?_ ?_;rotate_left;(intro w';go_simp;with_reducible rfl);rotate_left;((try simp only [Act.put,E,U,G,i64_w,i32_w]);rfl)
        refine take_ (i:=6) (N:=some 23) (v:=?_) (a':=?_) #[O,O,O,O,O,O,O,O,O,Z,Z,O,O,O,O,Z,O,O,Z,Z,Z] rfl rfl (take_ofW HT_.out HW_.out (by kernel_rfl)) (fun _ _ _ h=>h) (Or.inl ⟨by rfl,?_⟩) hHeld ?_ ?_;rotate_left;(rintro w' ⟨s0,s1,s2,s3,s4,s5,s6,s7,s8,s9,s10,s11⟩;go_simp;with_reducible rfl);rotate_left;((try simp only [Act.put,E,U,G,i64_w,i32_w]);rfl)
        refine take_ (i:=15) (N:=some 32) (v:=?_) (a':=?_) #[O,O,O,O,O,O,O,O,O,Z,Z,O,O,O,O,O,O,O,Z,Z,Z] rfl rfl (take_ofW HT_.out HW_.out (by kernel_rfl)) (fun _ _ _ h=>h) (Or.inl ⟨by rfl,?_⟩) hHeld ?_ ?_;rotate_left;(rintro w' ⟨s0,s1,s2,s3,s4,s5,s6,s7,s8,s9,s10,s11⟩;go_simp;with_reducible rfl);rotate_left;((try simp only [Act.put,E,U,G,i64_w,i32_w]);rfl)
        refine one_ (i:=9) (N:=some 26) #[O,O,O,O,O,O,O,O,O,O,Z,O,O,O,O,O,O,O,Z,Z,Z] rfl rfl (one_of HT_.out (by kernel_rfl)) (by decide) (fun K hK=>?_)
        refine goes_ Try.func34 (by kernel_rfl) rfl #[.slice A116_4 ((rd_T41 l0 x6_1).f4).length c116_4,.int .i64 (Q (a1 - 1))] (by rfl) rfl rfl (by (try simp only [List.map_toArray,List.map_cons,List.map_nil]);first | done | rfl | (simp only [List.length_drop,List.length_take];rfl)) ?_
        with_reducible refine (ih kj2 (by have:=HK1.out;have:=HJ2.out;omega) _ _ ((rd_T41 l0 x6_1).f4) (Q (a1 - 1)) t117 _ ?side1 ?side2 A8.out).mono ?_
        (case side1=>repeat (first | exact (Kd.C_below HR116_4.out HB.out) | (with_reducible refine Kd.C_alloc ?_ _) | (with_reducible refine Kd.C_drewN ?_ _) | (with_reducible refine Kd.C_drew ?_)))
        (case side2=>exact HC116_4.out)
        rintro e w11 ⟨rfl,hb⟩
        refine ⟨_,rfl,?_⟩
        have n0_:=J (below_step (q3_ HB) hb)
        clear HB;have HB:=n0_;clear n0_
        refine hK.out _ _ ⟨((HB.out.cell (X w _ hw116_0)).trans hw116_0),((HB.out.cell (X w _ hw116_1)).trans hw116_1),((HB.out.cell (X w _ hw116_2)).trans hw116_2),((HB.out.cell (X w _ hw116_3)).trans hw116_3),((HB.out.cell (X w _ hw116_4)).trans hw116_4),((HB.out.cell (X w _ hw116_5)).trans hw116_5),((HB.out.cell (X w _ hw118_0)).trans hw118_0),((HB.out.cell (X w _ hw118_1)).trans hw118_1),((HB.out.cell (X w _ hw118_2)).trans hw118_2),((HB.out.cell (X w _ hw118_3)).trans hw118_3),((HB.out.cell (X w _ hw118_4)).trans hw118_4),((HB.out.cell (X w _ hw118_5)).trans hw118_5)⟩ (fun hHeld=>?_)
        clear hK K
        refine norm_ (a':=?_) ?_ ?_
        rotate_left
        ·show Act.put _ (some 26) _ = _
         simp only [Act.put,E,U,G,i64_w,i32_w]
         rfl
        refine pure_ (i:=10) (N:=some 27) (v:=?_) (a':=?_) #[O,O,O,O,O,O,O,O,O,O,O,O,O,O,O,O,O,O,Z,Z,Z] rfl rfl (any_of HT_.out (by kernel_rfl)) (fun _ _ _ h=>h) (Or.inl ⟨by rfl,?_⟩) ?_ ?_;rotate_left;(intro w';go_simp;with_reducible rfl);rotate_left;((try simp only [Act.put,E,U,G,i64_w,i32_w]);rfl)
        refine one_ (i:=18) (N:=some 35) #[O,O,O,O,O,O,O,O,O,O,O,O,O,O,O,O,O,O,O,Z,Z] rfl rfl (one_of HT_.out (by kernel_rfl)) (by decide) (fun K hK=>?_)
        refine goes_ Try.func34 (by kernel_rfl) rfl #[.slice A116_5 ((rd_T41 l0 x6_1).f5).length c116_5,.int .i64 (Q (a1 - 1))] (by rfl) rfl rfl (by (try simp only [List.map_toArray,List.map_cons,List.map_nil]);first | done | rfl | (simp only [List.length_drop,List.length_take];rfl)) ?_
        with_reducible refine (ih kj2 (by have:=HK1.out;have:=HJ2.out;omega) _ _ ((rd_T41 l0 x6_1).f5) (Q (a1 - 1)) t119 _ ?side1 ?side2 A9.out).mono ?_
        (case side1=>repeat (first | exact (Kd.C_below HR118_5.out HB.out) | (with_reducible refine Kd.C_alloc ?_ _) | (with_reducible refine Kd.C_drewN ?_ _) | (with_reducible refine Kd.C_drew ?_)))
        (case side2=>exact HC118_5.out)
        rintro e w12 ⟨rfl,hb⟩
        refine ⟨_,rfl,?_⟩
        have n0_:=J (below_step (q3_ HB) hb)
        clear HB;have HB:=n0_;clear n0_
        refine hK.out _ _ ⟨((HB.out.cell (X w _ hw116_0)).trans hw116_0),((HB.out.cell (X w _ hw116_1)).trans hw116_1),((HB.out.cell (X w _ hw116_2)).trans hw116_2),((HB.out.cell (X w _ hw116_3)).trans hw116_3),((HB.out.cell (X w _ hw116_4)).trans hw116_4),((HB.out.cell (X w _ hw116_5)).trans hw116_5),((HB.out.cell (X w _ hw118_0)).trans hw118_0),((HB.out.cell (X w _ hw118_1)).trans hw118_1),((HB.out.cell (X w _ hw118_2)).trans hw118_2),((HB.out.cell (X w _ hw118_3)).trans hw118_3),((HB.out.cell (X w _ hw118_4)).trans hw118_4),((HB.out.cell (X w _ hw118_5)).trans hw118_5)⟩ (fun hHeld=>?_)
        clear hK K
        refine norm_ (a':=?_) ?_ ?_
        rotate_left
        ·show Act.put _ (some 35) _ = _
         simp only [Act.put,E,U,G,i64_w,i32_w]
         rfl
        refine pure_ (i:=19) (N:=some 36) (v:=?_) (a':=?_) #[O,O,O,O,O,O,O,O,O,O,O,O,O,O,O,O,O,O,O,O,Z] rfl rfl (any_of HT_.out (by kernel_rfl)) (fun _ _ _ h=>h) (Or.inl ⟨by rfl,?_⟩) ?_ ?_;rotate_left;(intro w';go_simp;with_reducible rfl);rotate_left;((try simp only [Act.put,E,U,G,i64_w,i32_w]);rfl)
        refine pure_ (i:=20) (N:=some 5) (v:=?_) (a':=?_) #[O,O,O,O,O,O,O,O,O,O,O,O,O,O,O,O,O,O,O,O,O] rfl rfl (any_of HT_.out (by kernel_rfl)) (fun _ _ _ h=>h) (Or.inl ⟨by rfl,?_⟩) ?_ ?_;rotate_left;(intro w';go_simp;with_reducible rfl);rotate_left;((try simp only [Act.put,E,U,G,i64_w,i32_w]);rfl)
        refine done_ (done_of HT_.out (by kernel_rfl)) ?_
        try go_wp2
        go_roundg kj2
        case measure=>have:=HK1.out;have:=HJ2.out;omega
        case rel=>exact ⟨(Q ((Q ((Q (x5_1 + 1)) + t117)) + t119)),(Q (x6_1 + 1)),(by first | rfl | (simp;done) | (simp [*];done)),(by first | rfl | (simp;done) | (simp [*];done)),H',⟨by have:=HK1.out;have:=HJ2.out;omega⟩,⟨by repeat (first | (with_reducible first | exact HB.out | apply below_alloc | apply Y | apply below_drew1) | exact HB.out)⟩⟩
       ·rw [if_neg c7] at H
        exact absurd H (by simp)
      ·rw [if_neg c6] at H
       exact absurd H (by simp)
     ·replace c5:=Bool.eq_false_iff.mpr c5;subst c5
      have H1 : (some x5_1) = some r:=by rw [if_neg (show ¬ (false = true) by decide)] at H;exact H
      clear H;have H:=H1;clear H1;obtain rfl:=Option.some.inj H
      go_wp2
      go_ret
      exact ⟨by first | rfl | (simp [errW_none,errW_some] <;> rfl) | (simp [*,errW_none,errW_some] <;> rfl),by repeat (first | (with_reducible first | exact HB.out | apply below_alloc | apply Y | apply below_drew1) | exact HB.out)⟩
def spec_StmtsOk.f (k : Nat) (l0 : List (S41)) : Option (Bool):=(spec_l2List.f k l0 3 (-1)).bind fun t120=>(if t120 = true then ((spec_l2Many.f k l0 3).bind fun t121=>(some (decide (t121 ≤ 14)))) else (some false))
set_option maxHeartbeats 8000000 in
set_option maxRecDepth 100000 in
theorem spec_StmtsOk.calls (k : Nat) (A0 : Option Addr) (c0 : Nat) (l0 : List (S41)) (r : Bool) (w : World) (hr0 : Kd.C k41 w A0 l0.length l0) (hc0 : l0.length ≤ c0) (h : spec_StmtsOk.f k l0 = some r) :
  Calls Try.prog 29 #[.slice A0 l0.length c0] w fun e w'=>e = .returned (.bool r) ∧ Below w.heap.size w w':=by
 have HR0:=J hr0;have HC0:=J hc0;clear hr0 hc0;have HB:=J (Below.refl w.heap.size w);have H : ((spec_l2List.f k l0 3 (-1)).bind fun t120=>(if t120 = true then ((spec_l2Many.f k l0 3).bind fun t121=>(some (decide (t121 ≤ 14)))) else (some false))) = some r:=h;clear h;replace H:=Option.bind_eq_some_iff.mp H;obtain ⟨t120,A20,H⟩:=H;replace H : (if t120 = true then ((spec_l2Many.f k l0 3).bind fun t121=>(some (decide (t121 ≤ 14)))) else (some false)) = some r:=H;have A2:=J A20;clear A20
 by_cases c3 : t120 = true
 ·subst c3
  have H1 : ((spec_l2Many.f k l0 3).bind fun t121=>(some (decide (t121 ≤ 14)))) = some r:=by rw [if_pos rfl] at H;exact H
  clear H;have H:=H1;clear H1;replace H:=Option.bind_eq_some_iff.mp H;obtain ⟨t121,A40,H⟩:=H;replace H : (some (decide (t121 ≤ 14))) = some r:=H;have A4:=J A40;clear A40;obtain rfl:=Option.some.inj H;go_enter Try.func29,Try.ntmps29
  go_wp2_with (first | ((with_reducible refine gate_callee (f:=33) rfl ?_);refine goesM_ (some 4) Try.func33 #[.slice A0 l0.length c0,.int .i64 3,.int .i64 (-1)] ?_;(with_reducible refine (spec_l2List.calls k _ _ l0 3 (-1) true _ ?side1 ?side2 A2.out).mono ?_);(case side1=>repeat (first | exact HR0.out | (with_reducible refine Kd.C_alloc ?_ _) | (with_reducible refine Kd.C_drewN ?_ _) | (with_reducible refine Kd.C_drew ?_)));(case side2=>exact HC0.out);rintro e w5 ⟨rfl,hb⟩;refine ⟨_,rfl,?_⟩;have n0_:=J (below_step (q3_ HB) hb);clear HB;have HB:=n0_;clear n0_;(try clear hb)) | (go_at_call 34;(with_reducible refine (spec_l2Many.calls k _ _ l0 3 t121 _ ?side1 ?side2 A4.out).mono ?_);(case side1=>repeat (first | exact (Kd.C_below HR0.out HB.out) | (with_reducible refine Kd.C_alloc ?_ _) | (with_reducible refine Kd.C_drewN ?_ _) | (with_reducible refine Kd.C_drew ?_)));(case side2=>exact HC0.out);rintro e w6 ⟨rfl,hb⟩;have n0_:=J (below_step (q3_ HB) hb);clear HB;have HB:=n0_;clear n0_;(try clear hb)))
  go_ret
  exact ⟨by first | rfl | (simp [errW_none,errW_some] <;> rfl) | (simp [*,errW_none,errW_some] <;> rfl),by repeat (first | (with_reducible first | exact HB.out | apply below_alloc | apply Y | apply below_drew1) | exact HB.out)⟩
 ·replace c3:=Bool.eq_false_iff.mpr c3;subst c3
  have H1 : (some false) = some r:=by rw [if_neg (show ¬ (false = true) by decide)] at H;exact H
  clear H;have H:=H1;clear H1;obtain rfl:=Option.some.inj H;go_enter Try.func29,Try.ntmps29
  go_wp2_with (first | ((with_reducible refine gate_callee (f:=33) rfl ?_);refine goesM_ (some 4) Try.func33 #[.slice A0 l0.length c0,.int .i64 3,.int .i64 (-1)] ?_;(with_reducible refine (spec_l2List.calls k _ _ l0 3 (-1) false _ ?side1 ?side2 A2.out).mono ?_);(case side1=>repeat (first | exact HR0.out | (with_reducible refine Kd.C_alloc ?_ _) | (with_reducible refine Kd.C_drewN ?_ _) | (with_reducible refine Kd.C_drew ?_)));(case side2=>exact HC0.out);rintro e w7 ⟨rfl,hb⟩;refine ⟨_,rfl,?_⟩;have n0_:=J (below_step (q3_ HB) hb);clear HB;have HB:=n0_;clear n0_;(try clear hb)))
  go_ret
  exact ⟨by first | rfl | (simp [errW_none,errW_some] <;> rfl) | (simp [*,errW_none,errW_some] <;> rfl),by repeat (first | (with_reducible first | exact HB.out | apply below_alloc | apply Y | apply below_drew1) | exact HB.out)⟩
def spec_ProgOk.l0 : Nat → List (List (S41)) → Int → Option (Bool)
 | 0,_,_=>none
 | k + 1,x0,x3=>if x3 < (x0.length : Int) then (if 0 ≤ x3 then ((spec_StmtsOk.f k (rd_L3 x0 x3)).bind fun t406=>(if t406 = true then (spec_ProgOk.l0 k x0 (Q (x3 + 1))) else (some false))) else (none)) else (if (x0.length : Int) ≥ 1 then (some (decide ((x0.length : Int) ≤ 3))) else (some false))
def spec_ProgOk.f (k : Nat) (l0 : List (List (S41))) : Option (Bool):=spec_ProgOk.l0 k l0 0
set_option maxHeartbeats 8000000 in
set_option maxRecDepth 100000 in
theorem spec_ProgOk.calls (k : Nat) (A0 : Option Addr) (c0 : Nat) (l0 : List (List (S41))) (r : Bool) (w : World) (hr0 : Kd.C (Kd.slice 41 k41) w A0 l0.length l0) (hc0 : l0.length ≤ c0) (h : spec_ProgOk.f k l0 = some r) :
  Calls Try.prog 15 #[.slice A0 l0.length c0] w fun e w'=>e = .returned (.bool r) ∧ Below w.heap.size w w':=by
 have HR0:=J hr0;have HC0:=J hc0;clear hr0 hc0;have HB:=J (Below.refl w.heap.size w);have H : (spec_ProgOk.l0 k l0 0) = some r:=h;clear h;have H':=J H;clear H;go_enter Try.func15,Try.ntmps15
 go_wp2
 go_loopg [3] k (fun kq v3 w'=>∃ (x3_1 : Int),v3 = .int .i64 x3_1 ∧ Aside0 (spec_ProgOk.l0 kq l0 x3_1 = some r) ∧ Aside0 (kq ≤ k) ∧ Aside0 (Below w.heap.size w w'))
 case atStart=>exact ⟨(0),(by first | rfl | (simp;done) | (simp [*];done)),H',⟨Nat.le_refl _⟩,⟨by repeat (first | (with_reducible first | exact HB.out | apply below_alloc | apply Y | apply below_drew1) | exact HB.out)⟩⟩
 case round =>
  clear H';(try clear c1);obtain ⟨x3_1,rfl,HA,HK1,HB⟩:=hrel
  cases gk with
  | zero=>exact absurd HA.out (by simp [spec_ProgOk.l0])
  | succ k1 =>
   have H:=HA.out;clear HA;simp only [spec_ProgOk.l0] at H
   by_cases c2 : x3_1 < (l0.length : Int)
   ·rw [if_pos c2] at H;have c2b0 : decide (x3_1 < (l0.length : Int)) = true:=decide_eq_true c2;clear c2
    by_cases c3 : 0 ≤ x3_1
    ·rw [if_pos c3] at H;have c3b0 : decide (0 ≤ x3_1) = true:=decide_eq_true c3;clear c3;replace H:=Option.bind_eq_some_iff.mp H;obtain ⟨t406,A40,H⟩:=H;replace H : (if t406 = true then (spec_ProgOk.l0 k1 l0 (Q (x3_1 + 1))) else (some false)) = some r:=H;have A4:=J A40;clear A40
     by_cases c5 : t406 = true
     ·subst c5
      have H1 : (spec_ProgOk.l0 k1 l0 (Q (x3_1 + 1))) = some r:=by rw [if_pos rfl] at H;exact H
      clear H;have H:=H1;clear H1;have H':=J H;clear H
      have p405 : 0 ≤ (x3_1 : Int):=of_decide_eq_true (by first | (with_reducible assumption) | assumption)
      have q405 : x3_1 < (l0.length : Int):=of_decide_eq_true (by first | (with_reducible assumption) | assumption)
      obtain ⟨ad405,A405_0,c405_0,e405,hx405_0,hl405_0,hi405_0⟩:=at_L3 HR0.out x3_1 p405 q405
      cases e405
      replace hx405_0:=(HB.out.cell (X w _ hx405_0)).trans hx405_0;have HR405_0:=J hi405_0;have HC405_0:=J hl405_0;clear hi405_0 hl405_0;replace p405:=eq_true p405;replace q405:=eq_true q405
      go_wp2_with (first | ((with_reducible refine gate_callee (f:=29) rfl ?_);refine goesM_ (some 14) Try.func29 #[.slice A405_0 (rd_L3 l0 x3_1).length c405_0] ?_;(with_reducible refine (spec_StmtsOk.calls k1 _ _ (rd_L3 l0 x3_1) true _ ?side1 ?side2 A4.out).mono ?_);(case side1=>repeat (first | exact (Kd.C_below HR405_0.out HB.out) | (with_reducible refine Kd.C_alloc ?_ _) | (with_reducible refine Kd.C_drewN ?_ _) | (with_reducible refine Kd.C_drew ?_)));(case side2=>exact HC405_0.out);rintro e w6 ⟨rfl,hb⟩;refine ⟨_,rfl,?_⟩;have n0_:=J (below_step (q3_ HB) hb);clear HB;have HB:=n0_;clear n0_;(try clear hb)))
      go_roundg k1
      case measure=>have:=HK1.out;omega
      case rel=>exact ⟨(Q (x3_1 + 1)),(by first | rfl | (simp;done) | (simp [*];done)),H',⟨by have:=HK1.out;omega⟩,⟨by repeat (first | (with_reducible first | exact HB.out | apply below_alloc | apply Y | apply below_drew1) | exact HB.out)⟩⟩
     ·replace c5:=Bool.eq_false_iff.mpr c5;subst c5
      have H1 : (some false) = some r:=by rw [if_neg (show ¬ (false = true) by decide)] at H;exact H
      clear H;have H:=H1;clear H1;obtain rfl:=Option.some.inj H
      have p405 : 0 ≤ (x3_1 : Int):=of_decide_eq_true (by first | (with_reducible assumption) | assumption)
      have q405 : x3_1 < (l0.length : Int):=of_decide_eq_true (by first | (with_reducible assumption) | assumption)
      obtain ⟨ad405,A405_0,c405_0,e405,hx405_0,hl405_0,hi405_0⟩:=at_L3 HR0.out x3_1 p405 q405
      cases e405
      replace hx405_0:=(HB.out.cell (X w _ hx405_0)).trans hx405_0;have HR405_0:=J hi405_0;have HC405_0:=J hl405_0;clear hi405_0 hl405_0;replace p405:=eq_true p405;replace q405:=eq_true q405
      go_wp2_with (first | ((with_reducible refine gate_callee (f:=29) rfl ?_);refine goesM_ (some 14) Try.func29 #[.slice A405_0 (rd_L3 l0 x3_1).length c405_0] ?_;(with_reducible refine (spec_StmtsOk.calls k1 _ _ (rd_L3 l0 x3_1) false _ ?side1 ?side2 A4.out).mono ?_);(case side1=>repeat (first | exact (Kd.C_below HR405_0.out HB.out) | (with_reducible refine Kd.C_alloc ?_ _) | (with_reducible refine Kd.C_drewN ?_ _) | (with_reducible refine Kd.C_drew ?_)));(case side2=>exact HC405_0.out);rintro e w7 ⟨rfl,hb⟩;refine ⟨_,rfl,?_⟩;have n0_:=J (below_step (q3_ HB) hb);clear HB;have HB:=n0_;clear n0_;(try clear hb)))
      go_ret
      exact ⟨by first | rfl | (simp [errW_none,errW_some] <;> rfl) | (simp [*,errW_none,errW_some] <;> rfl),by repeat (first | (with_reducible first | exact HB.out | apply below_alloc | apply Y | apply below_drew1) | exact HB.out)⟩
    ·rw [if_neg c3] at H
     exact absurd H (by simp)
   ·rw [if_neg c2] at H;have c2b0 : decide (x3_1 < (l0.length : Int)) = false:=decide_eq_false c2;clear c2
    by_cases c8 : (l0.length : Int) ≥ 1
    ·rw [if_pos c8] at H;have c8b0 : decide (1 ≤ (l0.length : Int)) = true:=decide_eq_true c8
     have c8b1 : decide (1 ≤ l0.length) = true:=decide_eq_true (by omega)
     clear c8;obtain rfl:=Option.some.inj H
     go_wp2
     go_ret
     exact ⟨by first | rfl | (simp [errW_none,errW_some] <;> rfl) | (simp [*,errW_none,errW_some] <;> rfl),by repeat (first | (with_reducible first | exact HB.out | apply below_alloc | apply Y | apply below_drew1) | exact HB.out)⟩
    ·rw [if_neg c8] at H;have c8b0 : decide (1 ≤ (l0.length : Int)) = false:=decide_eq_false c8
     have c8b1 : decide (1 ≤ l0.length) = false:=decide_eq_false (by omega)
     clear c8;obtain rfl:=Option.some.inj H
     go_wp2
     go_ret
     exact ⟨by first | rfl | (simp [errW_none,errW_some] <;> rfl) | (simp [*,errW_none,errW_some] <;> rfl),by repeat (first | (with_reducible first | exact HB.out | apply below_alloc | apply Y | apply below_drew1) | exact HB.out)⟩
end Go.Proofs.Ythgdapgophkklaa.P
