/- Parts of the proof of FnMeanSame: plain Lean functions of Go functions, and that the calls come to what they say; no condition beyond those that each theorem names. -/
import Derived.Test.YtfbocgagfodgnaaZFnMeanSame4
import Derived.Test.YtfbocgagfodgnaaZFnMeanSame5
import Derived.Test.YtfbocgagfodgnaaZFnMeanSame6
namespace Go.Proofs.Ytfbocgagfodgnaa.P
open Go.Proofs.YtfbocgagfodgnaaW.PrintWords renaming Aside0.mk → ö
open List renaming setIfInBounds_toArray → ä
open Go.RowKit Go.Proofs.YtfbocgagfodgnaaW.PrintWords Go.Proofs.YtfbocgagfodgnaaW.PrintLast Go.Proofs.YtfbocgagfodgnaaW.PrintMore
attribute [local go_sem] max2_int min2_int max_two min_two max_three min_three max_four min_four
set_option linter.unusedVariables false
set_option linter.unusedSimpArgs false
def l3open_T7 : Bool × List (List Nat × List Nat):=(true,[([],[]),([0],[0]),([],[]),([],[]),([],[]),([],[]),([4,5],[4,5]),([6],[6]),([3,7],[3,7]),([2,8],[2,8]),([9],[9]),([1,10,8],[1,10]),([0,1,2,3,4,5,6,7,8,9,10,11],[]),([12,11,11,0,1,2,3,4,5,6,7,8,9,10,11],[11,12])])
def l3open_B7 : List Nat:=[0,1,0,0,0,0,48,112,248,508,1020,2047,4095,8191]
theorem l3open_tab7 : rtab .any (opsOf Try.f24 7) = l3open_T7:=by kernel_rfl
theorem l3open_bits7 : waitsOk l3open_T7.2 l3open_B7 = true:=by kernel_rfl
def kM : Kd S69:=k69
def kQ : Kd (List Int) where
 sz:=(Kd.slice 3 (Kd.int .i64)).sz
 E:=(Kd.slice 3 (Kd.int .i64)).E
 K:=fun w x cs=>(Kd.slice 3 (Kd.int .i64)).K w x cs ∧ (x = [] → ∃ A,cs = [.slice A 0 0])
 M:=fun w base ok x cs=>(Kd.slice 3 (Kd.int .i64)).M w base ok x cs ∧ (x = [] → ∃ A,cs = [.slice A 0 0])
 K_len:=fun h=>(Kd.slice 3 (Kd.int .i64)).K_len h.1
 K_one:=fun h=>(Kd.slice 3 (Kd.int .i64)).K_one h.1
 K_below:=fun hb h=>⟨(Kd.slice 3 (Kd.int .i64)).K_below hb h.1,h.2⟩
 K_of_M:=fun h=>⟨(Kd.slice 3 (Kd.int .i64)).K_of_M h.1,h.2⟩
 M_mono:=fun hk h=>⟨(Kd.slice 3 (Kd.int .i64)).M_mono hk h.1,h.2⟩
 M_bound:=fun h=>⟨(Kd.slice 3 (Kd.int .i64)).M_bound h.1,h.2⟩
 M_move:=fun hm h=>⟨(Kd.slice 3 (Kd.int .i64)).M_move hm h.1,h.2⟩
 M_lower:=fun hb h=>⟨(Kd.slice 3 (Kd.int .i64)).M_lower hb h.1,h.2⟩
def rdSS (xs : List (List S69)) (i : Int) : List S69:=xs.getD i.toNat []
theorem atSS {d : Kd S69} {w : World} {A : Option Addr} {n : Nat} {xs : List (List S69)} (h : Kd.C (Kd.slice 69 d) w A n xs) (i : Int) (h0 : 0 ≤ i) (h1 : i < n) : ∃ ad A0 c0,A = some ad ∧ w.cell? (ad.add i.toNat) = some (.slice A0 (rdSS xs i).length c0) ∧ (rdSS xs i).length ≤ c0 ∧ d.C w A0 (rdSS xs i).length (rdSS xs i):=by
 obtain ⟨ad,c,e,_,hK,hc0⟩:=Kd.C_get h ([] : List S69) i h0 h1
 have hc : ∀ j u,c[j]? = some u → w.cell? (ad.add (i.toNat * 1 + j)) = some u:=hc0
 obtain ⟨A0,c0,rfl,l0,g0⟩:=hK
 exact ⟨ad,A0,c0,e,by have hq:=hc 0 _ rfl;rwa [Nat.mul_one,Nat.add_zero] at hq,l0,g0⟩
def rdII (xs : List (List Int)) (i : Int) : List Int:=xs.getD i.toNat []
theorem atII {w : World} {A : Option Addr} {n : Nat} {xs : List (List Int)} (h : Kd.C (Kd.slice 3 (Kd.int .i64)) w A n xs) (i : Int) (h0 : 0 ≤ i) (h1 : i < n) : ∃ ad A0 c0,A = some ad ∧ w.cell? (ad.add i.toNat) = some (.slice A0 (rdII xs i).length c0) ∧ (rdII xs i).length ≤ c0 ∧ (Kd.int .i64).C w A0 (rdII xs i).length (rdII xs i):=by
 obtain ⟨ad,c,e,_,hK,hc0⟩:=Kd.C_get h ([] : List Int) i h0 h1
 have hc : ∀ j u,c[j]? = some u → w.cell? (ad.add (i.toNat * 1 + j)) = some u:=hc0
 obtain ⟨A0,c0,rfl,l0,g0⟩:=hK
 exact ⟨ad,A0,c0,e,by have hq:=hc 0 _ rfl;rwa [Nat.mul_one,Nat.add_zero] at hq,l0,g0⟩
def kT (w : World) : Kd (List S69):=Kd.or_ (Kd.slice 69 (Kd.fixed kM w)) (Kd.slice 69 k69) rfl
def kP (w : World) : Kd S51:=Kd.iso (Kd.pair (Kd.slice 3 (Kd.int .i64)) (Kd.pair (kT w) (Kd.pair (Kd.int .i64) (Kd.pair (Kd.int .i64) (Kd.int .i64))))) (fun x : S51=>(x.f0,x.f1,x.f2,x.f3,x.f4))
theorem kP_mkM (w W : World) (base : Nat) (ok : Nat → Prop) (x : S51) {v0 v1 : Value} (g0 : (Kd.int .i64).R 3 W base ok v0 x.f0) (g1 : (kT w).M W base ok x.f1 [v1]) : (kP w).M W base ok x [v0,v1,.int .i64 x.f2,.int .i64 x.f3,.int .i64 x.f4]:=⟨[v0],[v1,.int .i64 x.f2,.int .i64 x.f3,.int .i64 x.f4],rfl,⟨v0,rfl,g0⟩,⟨[v1],[.int .i64 x.f2,.int .i64 x.f3,.int .i64 x.f4],rfl,g1,⟨[.int .i64 x.f2],[.int .i64 x.f3,.int .i64 x.f4],rfl,rfl,⟨[.int .i64 x.f3],[.int .i64 x.f4],rfl,rfl,rfl⟩⟩⟩⟩
def kPf (w : World) : Kd S51:=Kd.iso (Kd.pair (Kd.slice 3 (Kd.int .i64)) (Kd.pair (Kd.slice 69 (Kd.fixed kM w)) (Kd.pair (Kd.int .i64) (Kd.pair (Kd.int .i64) (Kd.int .i64))))) (fun x : S51=>(x.f0,x.f1,x.f2,x.f3,x.f4))
theorem kPf_mkM (w W : World) (base : Nat) (ok : Nat → Prop) (x : S51) {v0 v1 : Value} (g0 : (Kd.int .i64).R 3 W base ok v0 x.f0) (g1 : (Kd.fixed kM w).R 69 W base ok v1 x.f1) : (kPf w).M W base ok x [v0,v1,.int .i64 x.f2,.int .i64 x.f3,.int .i64 x.f4]:=⟨[v0],[v1,.int .i64 x.f2,.int .i64 x.f3,.int .i64 x.f4],rfl,⟨v0,rfl,g0⟩,⟨[v1],[.int .i64 x.f2,.int .i64 x.f3,.int .i64 x.f4],rfl,⟨v1,rfl,g1⟩,⟨[.int .i64 x.f2],[.int .i64 x.f3,.int .i64 x.f4],rfl,rfl,⟨[.int .i64 x.f3],[.int .i64 x.f4],rfl,rfl,rfl⟩⟩⟩⟩
theorem kPf_29 (w : World) : ∀ q,q ∈ 51 :: (kPf w).E → q ≠ 33:=show ∀ q,q ∈ [51,3,69] → q ≠ 33 by decide
theorem kPf_open {w W : World} {x : S51} {cs : List Value} (h : (kPf w).K W x cs) : ∃ A0 c0 A1 c1,cs = [.slice A0 x.f0.length c0,.slice A1 x.f1.length c1,.int .i64 x.f2,.int .i64 x.f3,.int .i64 x.f4] ∧ x.f0.length ≤ c0 ∧ (Kd.int .i64).C W A0 x.f0.length x.f0 ∧ x.f1.length ≤ c1 ∧ (Kd.fixed kM w).C W A1 x.f1.length x.f1:=by
 obtain ⟨_,_,rfl,⟨A0,c0,rfl,l0,g0⟩,⟨_,_,rfl,⟨A1,c1,rfl,l1,g1⟩,⟨_,_,rfl,rfl,⟨_,_,rfl,rfl,rfl⟩⟩⟩⟩:=h
 exact ⟨A0,c0,A1,c1,rfl,l0,g0,l1,g1⟩
structure RO (kd : Kd S51) (n : Nat) (W : World) (x0 : List S51) (x1 x2 : List Int) (x3 : List (List Int)) (x4 : List S38) (v0 v1 v2 v3 v4 : Value) : Prop where
 r0 : Kd.R kd 51 W n (fun _=>True) v0 x0
 r1 : Kd.R (Kd.int .i64) 3 W n (fun _=>True) v1 x1
 r2 : Kd.R (Kd.int .i64) 3 W n (fun _=>True) v2 x2
 r3 : Kd.R kQ 26 W n (fun _=>True) v3 x3
 r4 : Kd.R k38 38 W n (fun _=>True) v4 x4
theorem kM_K {w W : World} (hb : Below w.heap.size w W) {x : S69} {cs : List Value} (h : kM.K w x cs) : k69.K W x cs:=k69.K_below hb (show k69.K w x cs from h)
theorem fixed_C {w W : World} (hb : Below w.heap.size w W) {A : Option Addr} {n : Nat} {xs : List S69} (h : (Kd.fixed kM w).C W A n xs) : k69.C W A n xs :=
 ⟨h.1,h.2.1,fun hn=>by
  obtain ⟨ad,e,hc⟩:=h.2.2 hn
  refine ⟨ad,e,fun j p hj=>?_⟩
  obtain ⟨c,hs,hr,hcell⟩:=hc j p hj
  exact ⟨c,hs,kM_K hb hr,hcell⟩⟩
theorem kM_C {w : World} {A : Option Addr} {n : Nat} {xs : List S69} (h : kM.C w A n xs) : k69.C w A n xs :=
 ⟨h.1,h.2.1,fun hn=>by
  obtain ⟨ad,e,hc⟩:=h.2.2 hn
  refine ⟨ad,e,fun j p hj=>?_⟩
  obtain ⟨c,hs,hr,hcell⟩:=hc j p hj
  exact ⟨c,hs,kM_K (Below.refl _ _) hr,hcell⟩⟩
theorem kMs_C {w : World} {A : Option Addr} {n : Nat} {xs : List (List S69)} (h : Kd.C (Kd.slice 69 kM) w A n xs) : Kd.C (Kd.slice 69 k69) w A n xs :=
 ⟨h.1,h.2.1,fun hn=>by
  obtain ⟨ad,e,hc⟩:=h.2.2 hn
  refine ⟨ad,e,fun j p hj=>?_⟩
  obtain ⟨c,hs,⟨A0,c0,ec,hl,hr⟩,hcell⟩:=hc j p hj
  exact ⟨c,hs,⟨A0,c0,ec,hl,kM_C hr⟩,hcell⟩⟩
theorem kP_K {w W : World} (hb : Below w.heap.size w W) {x : S51} {cs : List Value} (h : (kP w).K W x cs) : k51.K W x cs:=by
 obtain ⟨c0,c1,rfl,h0,d0,d1,rfl,h1,h2⟩:=h
 refine ⟨c0,d0 ++ d1,rfl,h0,d0,d1,rfl,?_,h2⟩
 rcases h1 with ⟨A,c,e,hl,hc⟩ | h1
 ·exact ⟨A,c,e,hl,fixed_C hb hc⟩
 ·exact h1
theorem kP_29 (w : World) : ∀ q,q ∈ 51 :: (kP w).E → q ≠ 33:=show ∀ q,q ∈ [51,3,69,69,69] → q ≠ 33 by decide
def Rd {α : Type} (d : Kd α) (w : World) (v : Value) (xs : List α) : Prop:=∃ A c,v = .slice A xs.length c ∧ xs.length ≤ c ∧ d.C w A xs.length xs
theorem Rd.of_R {α : Type} {d : Kd α} {e : Nat} {w : World} {base : Nat} {ok : Nat → Prop} {v : Value} {xs : List α} (h : d.R e w base ok v xs) : Rd d w v xs:=Kd.R_reads h
theorem Rd.below {α : Type} {d : Kd α} {w w' : World} {v : Value} {xs : List α} (h : Rd d w v xs) (hb : Below w.heap.size w w') : Rd d w' v xs:=by
 obtain ⟨A,c,e,hl,hc⟩:=h
 exact ⟨A,c,e,hl,Kd.C_below hc hb⟩
theorem Rd.nil {α : Type} (d : Kd α) (w : World) : Rd d w (.slice none 0 0) []:=⟨none,0,rfl,Nat.le_refl _,⟨rfl,by simp,fun h=>absurd h (Nat.lt_irrefl 0)⟩⟩
structure WC (w : World) (x0 : List S51) (x1 x2 : List Int) (x3 : List (List Int)) (x4 : List S38) (v0 v1 v2 v3 v4 : Value) : Prop where
 r0 : Rd k51 w v0 x0
 r1 : Rd (Kd.int .i64) w v1 x1
 r2 : Rd (Kd.int .i64) w v2 x2
 r3 : Rd (Kd.slice 3 (Kd.int .i64)) w v3 x3
 r4 : Rd k38 w v4 x4
theorem WC.below {w w' : World} {x0 : List S51} {x1 x2 : List Int} {x3 : List (List Int)} {x4 : List S38} {v0 v1 v2 v3 v4 : Value} (h : WC w x0 x1 x2 x3 x4 v0 v1 v2 v3 v4) (hb : Below w.heap.size w w') : WC w' x0 x1 x2 x3 x4 v0 v1 v2 v3 v4:=⟨h.r0.below hb,h.r1.below hb,h.r2.below hb,h.r3.below hb,h.r4.below hb⟩
theorem WC.nil (w : World) : WC w [] [] [] [] [] (.slice none 0 0) (.slice none 0 0) (.slice none 0 0) (.slice none 0 0) (.slice none 0 0):=⟨Rd.nil _ _,Rd.nil _ _,Rd.nil _ _,Rd.nil _ _,Rd.nil _ _⟩
theorem set5_ {W : World} {α : Type} {d : Kd α} {e base gb : Nat} {ok : Nat → Prop} {v : Value} {xs : List α} {cells : Array Value} (u0 u1 u2 u3 u4 : Value) (h : d.R e W base ok v xs) (hb : W.heap[gb]? = some (.cells cells 33 (0,0))) (ht : ∀ q,q ∈ e :: d.E → q ≠ 33) : d.R e (((((W.setCell ⟨gb,0,none⟩ u0).setCell ⟨gb,1,none⟩ u1).setCell ⟨gb,2,none⟩ u2).setCell ⟨gb,3,none⟩ u3).setCell ⟨gb,4,none⟩ u4) base ok v xs :=
 Kd.R_set (Kd.R_set (Kd.R_set (Kd.R_set (Kd.R_set h hb ht 0 u0) (blk_set hb 0 u0) ht 1 u1) (blk_set (blk_set hb 0 u0) 1 u1) ht 2 u2) (blk_set (blk_set (blk_set hb 0 u0) 1 u1) 2 u2) ht 3 u3) (blk_set (blk_set (blk_set (blk_set hb 0 u0) 1 u1) 2 u2) 3 u3) ht 4 u4
def nils5 : Array Value:=#[.slice none 0 0,.slice none 0 0,.slice none 0 0,.slice none 0 0,.slice none 0 0]
def gO (n0 m0 i : Nat) (vs : Nat → Value) (w : World) (v : Value) : Prop :=
 match i with
 | 0=>Kd.R (Kd.int .i64) 3 w n0 (fun _=>True) v (List.replicate 3 0)
 | 1=>Kd.R (Kd.int .i64) 3 w n0 (fun _=>True) v (List.replicate 2 0)
 | 2=>Kd.R kQ 26 w n0 (fun _=>True) v (List.replicate 2 [])
 | 3=>Kd.R k38 38 w n0 (fun _=>True) v []
 | 4=>v = .agg #[.slice none 0 0,vs 0,vs 1,vs 2,vs 3]
 | _=>∃ gb,v = .pointer (some ⟨gb,0,none⟩) ∧ m0 ≤ gb ∧ w.heap[gb]? = some (.cells nils5 33 (0,0))
theorem gO_mono (n0 m0 i : Nat) (vs : Nat → Value) (w w' : World) (v : Value) (hb : Below w.heap.size w w') (h : gO n0 m0 i vs w v) : gO n0 m0 i vs w' v:=by
 match i,h with
 | 0,h=>exact Kd.R_below h hb
 | 1,h=>exact Kd.R_below h hb
 | 2,h=>exact Kd.R_below h hb
 | 3,h=>exact Kd.R_below h hb
 | 4,h=>exact h
 | _ + 5,⟨gb,e,hg,hh⟩=>exact ⟨gb,e,hg,blk_below hh hb⟩
def gL (w : World) (n : Nat) (x : List S69) (i : Nat) (vs : Nat → Value) (W : World) (v : Value) : Prop :=
 match i with
 | 2=>Kd.R (Kd.int .i64) 3 W n (fun _=>True) v (List.replicate 3 0)
 | 3=>∃ g,v = .slice (some ⟨g,0,none⟩) 0 0 ∧ Kd.R (Kd.fixed kM w) 69 W n (fun _=>True) v []
 | _=>Kd.R (Kd.fixed kM w) 69 W n (fun _=>True) v x
theorem gL_mono (w : World) (n : Nat) (x : List S69) (i : Nat) (vs : Nat → Value) (W W' : World) (v : Value) (hb : Below W.heap.size W W') (h : gL w n x i vs W v) : gL w n x i vs W' v:=by
 match i,h with
 | 2,h=>exact Kd.R_below h hb
 | 3,⟨g,e,h⟩=>exact ⟨g,e,Kd.R_below h hb⟩
 | 0,h=>exact Kd.R_below h hb
 | 1,h=>exact Kd.R_below h hb
 | _ + 4,h=>exact Kd.R_below h hb
set_option maxHeartbeats 8000000 in
set_option maxRecDepth 100000 in
theorem l3open_says (k : Nat) (A0 : Option Addr) (c0 : Nat) (l0 : List (List S69)) (r : Bool) (wf w : World) (hwf : Below wf.heap.size wf w) (hr0 : Kd.C (Kd.slice 69 kM) wf A0 l0.length l0) (hc0 : l0.length ≤ c0) (hlen : r = true → (∀ x ∈ l0,x.length ≤ 1000000000) ∧ l0.length ≤ 1000000000) (h : spec_ProgOk.f k l0 = some r) :
  Calls Try.prog 24 #[.slice A0 l0.length c0] w fun e w'=>∃ v0 v1 v2 v3 v4 : Value,e = .returned (.agg #[v0,v1,v2,v3,v4]) ∧ (if r = true then RO (kPf wf) w.heap.size w' (wo0 r l0) (wo1 r) (wo2 r) (wo3 r) [] v0 v1 v2 v3 v4 else v0 = .slice none 0 0 ∧ v1 = .slice none 0 0 ∧ v2 = .slice none 0 0 ∧ v3 = .slice none 0 0 ∧ v4 = .slice none 0 0) ∧ Below w.heap.size w w':=by
 have hu29:=Try.underlying33
 have hu59:=Try.underlying51
 have HR0:=ö hr0
 have HWF:=ö hwf
 have HC0:=ö hc0
 have A2:=ö h
 clear hr0 hc0 h hwf
 have HB:=ö (Below.refl w.heap.size w)
 cases r with
 | true =>
  have HF0:=ö (hlen rfl)
  clear hlen
  go_enter Try.func24,Try.ntmps24
  go_wp2_with (first | ((with_reducible refine gate_dst (N:=2) rfl ?_);refine box_event ?hg (N:=2) ?hd (cs:=#[.slice none 0 0,.slice none 0 0,.slice none 0 0,.slice none 0 0,.slice none 0 0]) (t:=33) ?hr ?_;(case hd=>rfl);(case hg=>rfl);(case hr=>first | (go_simp;done) | (go_simp;rfl));intro gb hg w5 hbox hb;have n0_:=ö (below_step (q0_ HB) hb);have n1_:=ö (hbox);have GE:=ö ((by rw [hg];exact (below_size (q0_ HB)) : w.heap.size ≤ gb));clear HB;have HB:=n0_;have BK:=n1_;clear n0_ n1_;clear hb hbox hg) | (go_at_call 22;(with_reducible refine (spec_ProgOk.calls k _ _ l0 true _ ?side1 ?side2 A2.out).mono ?_);(case side1=>repeat (first | exact (Kd.C_below (Kd.C_below (kMs_C HR0.out) HWF.out) HB.out) | (with_reducible refine Kd.C_alloc ?_ _) | (with_reducible refine Kd.C_drewN ?_ _) | (with_reducible refine Kd.C_drew ?_)));(case side2=>exact HC0.out);rintro e w6 ⟨rfl,hb⟩;have n0_:=ap2 (blk_below (g:=gb) (o:=.cells #[.slice none 0 0,.slice none 0 0,.slice none 0 0,.slice none 0 0,.slice none 0 0] 33 (0,0)) (q1_ BK) hb) (below_step (q2_ HB GE) hb);clear BK HB hb;obtain ⟨BK,HB⟩:=n0_))
  have n0_:=ö (blk_drew BK.out)
  have n1_:=ö (below_drew1 HB.out)
  clear BK HB
  have BK:=n0_
  have HB:=n1_
  clear n0_ n1_
  refine start_ (n:=7) (S:=fun w'=>True) (ds:=[]) #[false,false,false,false,false,false,false] (by kernel_rfl) rfl rfl trivial (fun hHeld=>?_)
  clear hHeld
  generalize w6.drew = w7 at BK HB ⊢
  refine grow_ [(0,9),(1,10),(2,11),(3,12),(4,13),(5,3)] #[true,true,true,true,true,true,false] 34 rfl (by kernel_rfl) (fuel:=1) rfl (gO w.heap.size w7.heap.size) (gO_mono w.heap.size w7.heap.size) ?cong (fun _ _=>trivial) ?step ?done
  case cong =>
   intro g hg oi hoi vs vs' w8 v hq h
   simp only [List.mem_cons,List.not_mem_nil,or_false] at hg
   rcases hg with rfl | rfl | rfl | rfl | rfl | rfl
   ·exact h
   ·exact h
   ·exact h
   ·exact h
   ·obtain rfl:=same_ hoi rfl
    have h' : v = .agg #[.slice none 0 0,vs 0,vs 1,vs 2,vs 3]:=h
    show v = .agg #[.slice none 0 0,vs' 0,vs' 1,vs' 2,vs' 3]
    rw [h',hq 0 (by decide),hq 1 (by decide),hq 2 (by decide),hq 3 (by decide)]
   ·exact h
  case step =>
   intro g hg oi hoi a w8 vs hB hdep htm K hK
   have hS : w.heap.size ≤ w8.heap.size:=Nat.le_trans HB.out.size hB.size
   simp only [List.mem_cons,List.not_mem_nil,or_false] at hg
   rcases hg with rfl | rfl | rfl | rfl | rfl | rfl
   ·obtain rfl:=same_ hoi rfl
    refine Kd.R_make_step (Kd.int .i64) w.heap.size 3 (by rfl) (N:=9) rfl 26 _ _ rfl 3 rfl rfl Try.underlying26 (.int .i64 0) 8 info3 rfl (by decide) (by omega) 0 (ok:=fun _=>True) (okp:=fun _=>True) rfl (fun _ hk=>hk) trivial (by omega) (by omega) (Below.refl _ _) hS ?_
    intro v1 w9 ho hb hg_ hnew_
    exact hK v1 w9 ⟨hg_.os,hg_.tape,hg_.output,hg_.size,fun k hk=>hg_.block k hk (by simp)⟩ ho
   ·obtain rfl:=same_ hoi rfl
    refine Kd.R_make_step (Kd.int .i64) w.heap.size 3 (by rfl) (N:=10) rfl 26 _ _ rfl 2 rfl rfl Try.underlying26 (.int .i64 0) 8 info3 rfl (by decide) (by omega) 0 (ok:=fun _=>True) (okp:=fun _=>True) rfl (fun _ hk=>hk) trivial (by omega) (by omega) (Below.refl _ _) hS ?_
    intro v1 w9 ho hb hg_ hnew_
    exact hK v1 w9 ⟨hg_.os,hg_.tape,hg_.output,hg_.size,fun k hk=>hg_.block k hk (by simp)⟩ ho
   ·obtain rfl:=same_ hoi rfl
    refine Kd.R_make_step kQ w.heap.size 26 (by rfl) (N:=11) rfl 31 _ _ rfl 2 rfl rfl Try.underlying31 (.slice none 0 0) 24 info26 rfl (by decide) (by omega) [] (ok:=fun _=>True) (okp:=fun _=>True) ⟨⟨_,rfl,Kd.R_nil _ _ _ _ _⟩,fun _=>⟨_,rfl⟩⟩ (fun _ hk=>hk) trivial (by omega) (by omega) (Below.refl _ _) hS ?_
    intro v1 w9 ho hb hg_ hnew_
    exact hK v1 w9 ⟨hg_.os,hg_.tape,hg_.output,hg_.size,fun k hk=>hg_.block k hk (by simp)⟩ ho
   ·obtain rfl:=same_ hoi rfl
    refine Kd.R_lit_step k38 w.heap.size 38 (by rfl) (N:=12) rfl (xs:=([] : List S38)) (inner:=[]) (ok:=fun _=>True) (okp:=fun _=>True) ?hr (Reps.none _ _) (fun _ hk=>hk) trivial (Below.refl _ _) hS (by simp) ?_
    case hr=>first | (go_simp;done) | (go_simp;rfl)
    intro v1 w9 ho hb hg_ hnew_
    exact hK v1 w9 ⟨hg_.os,hg_.tape,hg_.output,hg_.size,fun k hk=>hg_.block k hk (by simp)⟩ ho
   ·obtain rfl:=same_ hoi rfl
    obtain ⟨g0,e0⟩:=hdep (0,9) (by simp) (by decide)
    obtain ⟨g1,e1⟩:=hdep (1,10) (by simp) (by decide)
    obtain ⟨g2,e2⟩:=hdep (2,11) (by simp) (by decide)
    obtain ⟨g3,e3⟩:=hdep (3,12) (by simp) (by decide)
    obtain ⟨B0,d0,f0⟩:=Kd.R_slice (g0 : Kd.R (Kd.int .i64) 3 w8 w.heap.size (fun _=>True) (vs 0) (List.replicate 3 0))
    obtain ⟨B1,d1,f1⟩:=Kd.R_slice (g1 : Kd.R (Kd.int .i64) 3 w8 w.heap.size (fun _=>True) (vs 1) (List.replicate 2 0))
    obtain ⟨B2,d2,f2⟩:=Kd.R_slice (g2 : Kd.R kQ 26 w8 w.heap.size (fun _=>True) (vs 2) (List.replicate 2 []))
    obtain ⟨B3,d3,f3⟩:=Kd.R_slice (g3 : Kd.R k38 38 w8 w.heap.size (fun _=>True) (vs 3) [])
    refine value_ (N:=some 13) (w1:=w8) (v:=.agg #[.slice none 0 0,vs 0,vs 1,vs 2,vs 3]) (by rfl) rfl ?_ (hK _ _ (Below.refl _ _) rfl)
    simp only at e0 e1 e2 e3
    rw [f0] at e0 ⊢
    rw [f1] at e1 ⊢
    rw [f2] at e2 ⊢
    rw [f3] at e3 ⊢
    clear hK hdep htm
    generalize a.eval = ρ at e0 e1 e2 e3 ⊢
    clear hB g0 g1 g2 g3 f0 f1 f2 f3
    go_simp
    try simp only [e0,e1,e2,e3]
    try rfl
   ·obtain rfl:=same_ hoi rfl
    refine box_step (by rfl) (N:=3) rfl (cs:=nils5) (t:=33) ?hr ?_
    case hr=>first | (go_simp;done) | (go_simp;rfl)
    intro g1 hg1 w9 hbox hb
    exact hK _ w9 hb ⟨g1,rfl,by rw [hg1];exact hB.size,hbox⟩
  case done =>
   intro vs w8 hB hG
   have G0 : Kd.R (Kd.int .i64) 3 w8 w.heap.size (fun _=>True) (vs 0) (List.replicate 3 0):=hG (0,9) (by simp)
   have G1 : Kd.R (Kd.int .i64) 3 w8 w.heap.size (fun _=>True) (vs 1) (List.replicate 2 0):=hG (1,10) (by simp)
   have G2 : Kd.R kQ 26 w8 w.heap.size (fun _=>True) (vs 2) (List.replicate 2 []):=hG (2,11) (by simp)
   have G3 : Kd.R k38 38 w8 w.heap.size (fun _=>True) (vs 3) []:=hG (3,12) (by simp)
   have G4 : vs 4 = .agg #[.slice none 0 0,vs 0,vs 1,vs 2,vs 3]:=hG (4,13) (by simp)
   obtain ⟨gb1,G5,GW1,hb1⟩:=(hG (5,3) (by simp) : ∃ gb,vs 5 = .pointer (some ⟨gb,0,none⟩) ∧ w7.heap.size ≤ gb ∧ w8.heap[gb]? = some (.cells nils5 33 (0,0)))
   refine norm_ (a':=?_) ?_ ?_
   rotate_left
   ·simp only [puts,List.map_cons,List.map_nil,putAll,Act.put,ä,List.set_cons_zero,List.set_cons_succ,G4,G5]
    rfl
   generalize vs 0 = u0 at G0 ⊢
   generalize vs 1 = u1 at G1 ⊢
   generalize vs 2 = u2 at G2 ⊢
   generalize vs 3 = u3 at G3 ⊢
   clear G4 G5 hG vs
   obtain ⟨B0,d0,e0⟩:=Kd.R_slice G0
   obtain ⟨B1,d1,e1⟩:=Kd.R_slice G1
   obtain ⟨B2,d2,e2⟩:=Kd.R_slice G2
   obtain ⟨B3,d3,e3⟩:=Kd.R_slice G3
   rw [List.length_replicate] at e0 e1 e2
   subst e0;subst e1;subst e2;subst e3
   have HC:=ö G0
   have HR:=ö G1
   have HZ:=ö G2
   have HD:=ö G3
   have BK1:=ö (show w8.heap[gb1]? = some (.cells #[.slice none 0 0,.slice none 0 0,.slice none 0 0,.slice none 0 0,.slice none 0 0] 33 (0,0)) from hb1)
   have NB:=ö (show gb ≠ gb1 from by have:=blk_lt BK.out;omega)
   have NC:=ö (show gb1 ≠ gb from by have:=blk_lt BK.out;omega)
   have GE1:=ö (Nat.le_trans HB.out.size GW1)
   have n0_:=ö (blk_below BK.out hB)
   have n1_:=ö (below_step HB.out hB)
   clear BK HB G0 G1 G2 G3 GW1 hb1 hB
   have BK:=n0_
   have HB:=n1_
   clear n0_ n1_
   refine one_ (i:=6) (N:=none) #[true,true,true,true,true,true,true] rfl rfl (by kernel_rfl) (by decide) (fun K hK=>?_)
   obtain ⟨hcz_0,hcz_1,hcz_2,hcz_3,hcz_4,hfz_0,hfz_1,hfz_2,hfz_3,hfz_4⟩:=bz5_ BK1
   refine skip_ (w1:=?_) (by rfl) rfl ?_ ?_
   rotate_left
   ·go_simp
    rfl
   refine hK.out _ _ trivial (fun hHeld=>?_)
   clear hK K
   refine done_ (by kernel_rfl) ?_
   try go_wp2
   have n0_ : Aside0 ((((((w8.setCell ⟨gb1,0,none⟩ (.slice none 0 0)).setCell ⟨gb1,1,none⟩ (.slice B0 3 d0)).setCell ⟨gb1,2,none⟩ (.slice B1 2 d1)).setCell ⟨gb1,3,none⟩ (.slice B2 2 d2)).setCell ⟨gb1,4,none⟩ (.slice B3 ([] : List S38).length d3)).heap[gb1]? = some (.cells #[.slice none 0 0,.slice B0 3 d0,.slice B1 2 d1,.slice B2 2 d2,.slice B3 ([] : List S38).length d3] 33 (0,0))):=⟨by apply bp5_4_;apply bp5_3_;apply bp5_2_;apply bp5_1_;apply bp5_0_;exact BK1.out⟩
   have n1_:=ö (set5_ (.slice none 0 0) (.slice B0 3 d0) (.slice B1 2 d1) (.slice B2 2 d2) (.slice B3 ([] : List S38).length d3) HC.out BK1.out (by decide))
   have n2_:=ö (set5_ (.slice none 0 0) (.slice B0 3 d0) (.slice B1 2 d1) (.slice B2 2 d2) (.slice B3 ([] : List S38).length d3) HR.out BK1.out (by decide))
   have n3_:=ö (set5_ (.slice none 0 0) (.slice B0 3 d0) (.slice B1 2 d1) (.slice B2 2 d2) (.slice B3 ([] : List S38).length d3) HZ.out BK1.out (by decide))
   have n4_:=ö (set5_ (.slice none 0 0) (.slice B0 3 d0) (.slice B1 2 d1) (.slice B2 2 d2) (.slice B3 ([] : List S38).length d3) HD.out BK1.out (by decide))
   have n5_:=ö (blk_far (p:=⟨gb1,4,none⟩) (blk_far (p:=⟨gb1,3,none⟩) (blk_far (p:=⟨gb1,2,none⟩) (blk_far (p:=⟨gb1,1,none⟩) (blk_far (p:=⟨gb1,0,none⟩) BK.out NB.out (.slice none 0 0)) NB.out (.slice B0 3 d0)) NB.out (.slice B1 2 d1)) NB.out (.slice B2 2 d2)) NB.out (.slice B3 ([] : List S38).length d3))
   have n6_:=ö (below_set (v:=.slice B3 ([] : List S38).length d3) (j:=4) (below_set (v:=.slice B2 2 d2) (j:=3) (below_set (v:=.slice B1 2 d1) (j:=2) (below_set (v:=.slice B0 3 d0) (j:=1) (below_set (v:=.slice none 0 0) (j:=0) HB.out GE1.out) GE1.out) GE1.out) GE1.out) GE1.out)
   clear HC HR HZ HD BK BK1 HB hcz_0 hcz_1 hcz_2 hcz_3 hcz_4 hfz_0 hfz_1 hfz_2 hfz_3 hfz_4 hHeld
   generalize (((((w8.setCell ⟨gb1,0,none⟩ (.slice none 0 0)).setCell ⟨gb1,1,none⟩ (.slice B0 3 d0)).setCell ⟨gb1,2,none⟩ (.slice B1 2 d1)).setCell ⟨gb1,3,none⟩ (.slice B2 2 d2)).setCell ⟨gb1,4,none⟩ (.slice B3 ([] : List S38).length d3)) = w9 at n0_ n1_ n2_ n3_ n4_ n5_ n6_ ⊢
   go_loopg [4] l0.length (fun gg v4 wr=>∃ (kk : Nat) (u : Value) (ys : List S51),kk ≤ l0.length ∧ l0.length - kk ≤ gg ∧ v4 = .int .i64 kk ∧ Aside0 (ys = (l0.take kk).map prO ∧ ys.length = kk) ∧ Aside0 (Kd.R (kPf wf) 51 wr w.heap.size (fun _=>True) u ys) ∧ Aside0 (Kd.R (Kd.int .i64) 3 wr w.heap.size (fun _=>True) (.slice B0 3 d0) (List.replicate 3 0)) ∧ Aside0 (Kd.R (Kd.int .i64) 3 wr w.heap.size (fun _=>True) (.slice B1 2 d1) (List.replicate 2 0)) ∧ Aside0 (Kd.R kQ 26 wr w.heap.size (fun _=>True) (.slice B2 2 d2) (List.replicate 2 [])) ∧ Aside0 (Kd.R k38 38 wr w.heap.size (fun _=>True) (.slice B3 ([] : List S38).length d3) []) ∧ Aside0 (wr.heap[gb]? = some (.cells #[.slice none 0 0,.slice none 0 0,.slice none 0 0,.slice none 0 0,.slice none 0 0] 33 (0,0))) ∧ Aside0 (wr.heap[gb1]? = some (.cells #[u,.slice B0 3 d0,.slice B1 2 d1,.slice B2 2 d2,.slice B3 ([] : List S38).length d3] 33 (0,0))) ∧ Aside0 (Below w.heap.size w wr))
   case atStart=>exact ⟨0,_,[],Nat.zero_le _,by omega,rfl,⟨rfl,rfl⟩,⟨Kd.R_nil _ _ _ _ _⟩,n1_,n2_,n3_,n4_,n5_,n0_,n6_⟩
   case round =>
    clear n0_ n1_ n2_ n3_ n4_ n5_ n6_
    obtain ⟨kk,uu,ys,hkk,hgk,rfl,HY,HU,HC,HR,HZ,HD,BK,BK1,HB⟩:=hrel
    obtain ⟨Av,cv,eu⟩:=Kd.R_slice HU.out
    subst eu
    by_cases hlt : kk < l0.length
    ·have hltz : decide ((kk : Int) < (l0.length : Int)) = true:=decide_eq_true (by omega)
     have HLT:=ö hlt
     have p1 : 0 ≤ (kk : Int):=by omega
     have q1 : (kk : Int) < (l0.length : Int):=by omega
     obtain ⟨ad,Al,cl,ea,hx,hl,hi⟩:=atSS HR0.out (kk : Int) p1 q1
     cases ea
     replace hx:=clB HWF hx
     have hxo:=hx
     replace hx:=clB HB hx
     have hgx : rdSS l0 (kk : Int) = l0[kk]'hlt:=by simp [rdSS,List.getD_eq_getElem?_getD,List.getElem?_eq_getElem hlt]
     have hmem : rdSS l0 (kk : Int) ∈ l0:=by rw [hgx];exact List.getElem_mem hlt
     have hdrop : (l0.take (kk + 1)).map prO = ys ++ [prO (rdSS l0 (kk : Int))]:=by rw [HY.out.1,hgx,List.take_succ_eq_append_getElem hlt,List.map_append];rfl
     generalize rdSS l0 (kk : Int) = x at hx hxo hl hi hmem hdrop
     have HLX:=ö hi
     have HCX:=ö hl
     have HFX:=ö (HF0.out.1 x hmem)
     have HGR:=ö hdrop
     simp only [Int.toNat_natCast] at hx hxo
     have HXO:=ö hxo
     clear hi hl hgx hmem hdrop hxo
     replace p1:=eq_true p1
     replace q1:=eq_true q1
     obtain ⟨hcz_0,hcz_1,hcz_2,hcz_3,hcz_4,hfz_0,hfz_1,hfz_2,hfz_3,hfz_4⟩:=bz5_ BK1
     try go_wp2
     have m0_:=ö (Kd.R_drew HU.out);have m1_:=ö (Kd.R_drew HC.out);have m2_:=ö (Kd.R_drew HR.out);have m3_:=ö (Kd.R_drew HZ.out);have m4_:=ö (Kd.R_drew HD.out);have m5_:=ö (blk_drew BK.out);have m6_:=ö (blk_drew BK1.out);have m7_:=ö (below_drew1 HB.out)
     clear HU HC HR HZ HD BK BK1 HB
     refine start_ (n:=14) (S:=fun w'=>(w'.cell? ⟨gb1,0,none⟩ = some (.slice Av ys.length cv) ∧ w'.cell? ⟨gb1,1,none⟩ = some (.slice B0 3 d0) ∧ w'.cell? ⟨gb1,2,none⟩ = some (.slice B1 2 d1) ∧ w'.cell? ⟨gb1,3,none⟩ = some (.slice B2 2 d2) ∧ w'.cell? ⟨gb1,4,none⟩ = some (.slice B3 ([] : List S38).length d3)) ∧ w'.cell? (ad.add kk) = some (.slice Al x.length cl)) (ds:=[13]) #[false,false,false,false,false,false,false,false,false,false,false,false,false,false] (by kernel_rfl) rfl rfl ⟨⟨(blk_cell m6_.out 0).trans rfl,(blk_cell m6_.out 1).trans rfl,(blk_cell m6_.out 2).trans rfl,(blk_cell m6_.out 3).trans rfl,(blk_cell m6_.out 4).trans rfl⟩,hx⟩ (fun hHeld=>?_)
     refine with_tabW l3open_tab7 l3open_bits7 (fun HT_ HW_=>?_)
     refine pure_ (i:=0) (N:=some 20) (v:=?_) (a':=?_) #[true,false,false,false,false,false,false,false,false,false,false,false,false,false] rfl rfl (any_of HT_.out (by kernel_rfl)) (fun _ _ _ h=>h) (Or.inl ⟨by rfl,?_⟩) ?_ ?_
     rotate_left
     ·intro w'
      go_simp
      with_reducible rfl
     rotate_left
     ·(try simp only [Act.put,ä,List.set_cons_zero,List.set_cons_succ,i64_w,i32_w])
      rfl
     refine pure_ (i:=4) (N:=some 24) (v:=?_) (a':=?_) #[true,false,false,false,true,false,false,false,false,false,false,false,false,false] rfl rfl (any_of HT_.out (by kernel_rfl)) (fun _ _ _ h=>h) (Or.inl ⟨by rfl,?_⟩) ?_ ?_
     rotate_left
     ·intro w'
      go_simp
      with_reducible rfl
     rotate_left
     ·(try simp only [Act.put,ä,List.set_cons_zero,List.set_cons_succ,i64_w,i32_w])
      rfl
     refine pure_ (i:=5) (N:=some 25) (v:=?_) (a':=?_) #[true,false,false,false,true,true,false,false,false,false,false,false,false,false] rfl rfl (any_of HT_.out (by kernel_rfl)) (fun _ _ _ h=>h) (Or.inl ⟨by rfl,?_⟩) ?_ ?_
     rotate_left
     ·intro w'
      go_simp
      with_reducible rfl
     rotate_left
     ·(try simp only [Act.put,ä,List.set_cons_zero,List.set_cons_succ,i64_w,i32_w])
      rfl
     refine pure_ (i:=6) (N:=some 26) (v:=?_) (a':=?_) #[true,false,false,false,true,true,true,false,false,false,false,false,false,false] rfl rfl (any_of HT_.out (by kernel_rfl)) (fun _ _ _ h=>h) (Or.inl ⟨by rfl,?_⟩) ?_ ?_
     rotate_left
     ·intro w'
      go_simp
      with_reducible rfl
     rotate_left
     ·(try simp only [Act.put,ä,List.set_cons_zero,List.set_cons_succ,i64_w,i32_w])
      rfl
     refine take_ (i:=1) (N:=some 21) (v:=?_) (a':=?_) #[true,true,false,false,true,true,true,false,false,false,false,false,false,false] rfl rfl (take_ofW HT_.out HW_.out (by kernel_rfl)) (fun _ _ _ h=>h) (Or.inl ⟨by rfl,?_⟩) hHeld ?_ ?_
     rotate_left
     ·rintro w' ⟨⟨s0,s1,s2,s3,s4⟩,s5⟩
      go_simp
      with_reducible rfl
     rotate_left
     ·(try simp only [Act.put,ä,List.set_cons_zero,List.set_cons_succ,i64_w,i32_w])
      rfl
     refine take_ (i:=7) (N:=some 27) (v:=?_) (a':=?_) #[true,true,false,false,true,true,true,true,false,false,false,false,false,false] rfl rfl (take_ofW HT_.out HW_.out (by kernel_rfl)) (fun _ _ _ h=>h) (Or.inl ⟨by rfl,?_⟩) hHeld ?_ ?_
     rotate_left
     ·rintro w' ⟨⟨s0,s1,s2,s3,s4⟩,s5⟩
      go_simp
      with_reducible rfl
     rotate_left
     ·(try simp only [Act.put,ä,List.set_cons_zero,List.set_cons_succ,i64_w,i32_w])
      rfl
     generalize wr.drew = w10 at m0_ m1_ m2_ m3_ m4_ m5_ m6_ m7_ hHeld ⊢
     refine grow_ [(2,22),(3,23),(8,28)] #[true,true,true,true,true,true,true,true,true,false,false,false,false,false] 34 rfl (by kernel_rfl) (fuel:=5) rfl (gL wf w.heap.size x) (gL_mono wf w.heap.size x) ?cong ?held ?step ?done
     case cong =>
      intro g hg oi hoi vs vs' w8 v hq h
      simp only [List.mem_cons,List.not_mem_nil,or_false] at hg
      rcases hg with rfl | rfl | rfl
      ·exact h
      ·exact h
      ·exact h
     case held =>
      intro W hb
      refine ⟨⟨?_,?_,?_,?_,?_⟩,?_⟩
      ·exact (hb.cell (World.block_lt_of_cell? _ _ ((blk_cell m6_.out 0).trans rfl))).trans ((blk_cell m6_.out 0).trans rfl)
      ·exact (hb.cell (World.block_lt_of_cell? _ _ ((blk_cell m6_.out 1).trans rfl))).trans ((blk_cell m6_.out 1).trans rfl)
      ·exact (hb.cell (World.block_lt_of_cell? _ _ ((blk_cell m6_.out 2).trans rfl))).trans ((blk_cell m6_.out 2).trans rfl)
      ·exact (hb.cell (World.block_lt_of_cell? _ _ ((blk_cell m6_.out 3).trans rfl))).trans ((blk_cell m6_.out 3).trans rfl)
      ·exact (hb.cell (World.block_lt_of_cell? _ _ ((blk_cell m6_.out 4).trans rfl))).trans ((blk_cell m6_.out 4).trans rfl)
      ·exact (hb.cell (World.block_lt_of_cell? _ _ hHeld.2)).trans hHeld.2
     case step =>
      intro g hg oi hoi a w8 vs hB hdep htm K hK
      have hS : w.heap.size ≤ w8.heap.size:=Nat.le_trans m7_.out.size hB.size
      simp only [List.mem_cons,List.not_mem_nil,or_false] at hg
      rcases hg with rfl | rfl | rfl
      ·obtain rfl:=same_ hoi rfl
       refine Kd.R_make_step (Kd.int .i64) w.heap.size 3 (by rfl) (N:=22) rfl 26 _ _ rfl 3 rfl rfl Try.underlying26 (.int .i64 0) 8 info3 rfl (by decide) (by omega) 0 (ok:=fun _=>True) (okp:=fun _=>True) rfl (fun _ hk=>hk) trivial (by omega) (by omega) (Below.refl _ _) hS ?_
       intro v1 w9 ho hb hg_ hnew_
       exact hK v1 w9 ⟨hg_.os,hg_.tape,hg_.output,hg_.size,fun k hk=>hg_.block k hk (by simp)⟩ ho
      ·obtain rfl:=same_ hoi rfl
       refine lit0_step (Kd.fixed kM wf) w.heap.size 69 (by rfl) ?hr hS ?_
       case hr=>first | (go_simp;done) | (go_simp;rfl)
       intro g w9 hg ho hb
       exact hK _ w9 hb ⟨g,rfl,ho⟩
      ·obtain rfl:=same_ hoi rfl
       obtain ⟨⟨g3,e3,ho3⟩,f3⟩:=hdep (3,23) (by simp) (by decide)
       have f7:=htm 27 (by decide)
       rw [e3] at f3
       have ho4 : Kd.R (Kd.fixed kM wf) 69 w8 w.heap.size (fun _=>True) (.slice (some ⟨g3,0,none⟩) 0 0) []:=by rw [← e3];exact ho3
       refine lit_append_step (Kd.fixed kM wf) w.heap.size (by rfl) (.tmp 23) (.tmp 27) 49 69 (.agg #[(.int .i64 0),(.int .i64 0),(.int .i64 0),(.int .i64 0),(.slice none 0 0),(.slice none 0 0)]) 80 rfl Try.underlying49 info69 rfl (show 0 < 6 by decide) g3 x Al x.length cl (fun _=>True) f3 (f7.trans rfl) ho4 ?hread (fun _ _ h=>h) hS ?hlen (by decide) ?_
       case hread=>exact Kd.C_below (d:=Kd.fixed kM wf) (Kd.C_below (d:=Kd.fixed kM wf) (Kd.C_below (d:=Kd.fixed kM wf) HLX.out HWF.out) m7_.out) hB
       case hlen=>have:=HFX.out;omega
       intro v1 w9 ho hb
       exact hK v1 w9 hb ho
     case done =>
      intro vs w8 hB hG
      have G2 : Kd.R (Kd.int .i64) 3 w8 w.heap.size (fun _=>True) (vs 2) (List.replicate 3 0):=hG (2,22) (by simp)
      have G8 : Kd.R (Kd.fixed kM wf) 69 w8 w.heap.size (fun _=>True) (vs 8) x:=hG (8,28) (by simp)
      obtain ⟨g3,e3,hz_⟩ : ∃ g,vs 3 = .slice (some ⟨g,0,none⟩) 0 0 ∧ Kd.R (Kd.fixed kM wf) 69 w8 w.heap.size (fun _=>True) (vs 3) []:=hG (3,23) (by simp)
      refine norm_ (a':=?_) ?_ ?_
      rotate_left
      ·simp only [puts,List.map_cons,List.map_nil,putAll,Act.put,ä,List.set_cons_zero,List.set_cons_succ,e3]
       rfl
      generalize vs 2 = ua at G2 ⊢
      generalize vs 8 = ub at G8 ⊢
      clear e3 hz_ hG vs
      obtain ⟨Aa,ca,ea⟩:=Kd.R_slice G2
      obtain ⟨Ab,cb,eb⟩:=Kd.R_slice G8
      subst ea;subst eb
      have HA:=ö G2
      have HT:=ö G8
      have n0_:=ö (Kd.R_below m0_.out hB);have n1_:=ö (Kd.R_below m1_.out hB);have n2_:=ö (Kd.R_below m2_.out hB);have n3_:=ö (Kd.R_below m3_.out hB);have n4_:=ö (Kd.R_below m4_.out hB);have n5_:=ö (blk_below m5_.out hB);have n6_:=ö (blk_below m6_.out hB);have n7_:=ö (below_step m7_.out hB)
      clear m0_ m1_ m2_ m3_ m4_ m5_ m6_ m7_ hHeld hB G2 G8
      have HW8:=ö (show w.heap.size ≤ w8.heap.size from n7_.out.size)
      refine pure_ (i:=9) (N:=some 29) (v:=?_) (a':=?_) #[true,true,true,true,true,true,true,true,true,true,false,false,false,false] rfl rfl (any_of HT_.out (by kernel_rfl)) (fun _ _ _ h=>h) (Or.inl ⟨by rfl,?_⟩) ?_ ?_
      rotate_left
      ·intro w'
       go_simp
       with_reducible rfl
      rotate_left
      ·(try simp only [Act.put,ä,List.set_cons_zero,List.set_cons_succ,i64_w,i32_w])
       rfl
      refine one_ (i:=10) (N:=some 30) #[true,true,true,true,true,true,true,true,true,true,true,false,false,false] rfl rfl (one_of HT_.out (by kernel_rfl)) (by decide) (fun K hK=>?_)
      refine value_ (w1:=?_) (v:=?_) (by rfl) rfl ?_ ?_
      rotate_left 2
      ·go_simp
       constructor
       ·rfl
       ·rfl
      refine hK.out _ _ ⟨⟨(blk_cell (blk_alloc n6_.out _) 0).trans rfl,(blk_cell (blk_alloc n6_.out _) 1).trans rfl,(blk_cell (blk_alloc n6_.out _) 2).trans rfl,(blk_cell (blk_alloc n6_.out _) 3).trans rfl,(blk_cell (blk_alloc n6_.out _) 4).trans rfl⟩,?_⟩ (fun hHeld=>?_)
      ·exact ((below_alloc n7_.out _).cell (World.block_lt_of_cell? w _ HXO.out)).trans HXO.out
      clear hK K
      refine norm_ (a':=?_) ?_ ?_
      rotate_left
      ·show Act.put _ (some 30) _ = _
       simp only [Act.put,ä,List.set_cons_zero,List.set_cons_succ,i64_w,i32_w]
       rfl
      refine one_ (i:=11) (N:=some 31) #[true,true,true,true,true,true,true,true,true,true,true,true,false,false] rfl rfl (one_of HT_.out (by kernel_rfl)) (by decide) (fun K hK=>?_)
      refine Kd.R_append_step (kPf wf) (w0:=w) w.heap.size (by rfl) (.tmp 21) (.tmp 30) 30 51 (.agg #[(.slice none 0 0),(.slice none 0 0),(.int .i64 0),(.int .i64 0),(.int .i64 0)]) 72 rfl Try.underlying30 info51 rfl (show 0 < 5 by decide) (by omega) (.slice Av ys.length cv) ys (prO x) [.slice Aa (List.replicate 3 (0 : Int)).length ca,.slice Ab x.length cb,.int .i64 0,.int .i64 0,.int .i64 (-1)] (fun _=>True) (fun k_=>True ∧ some k_ ≠ (.slice Av ys.length cv : Value).ownBlock) rfl rfl ?aP (fun _ hk=>hk) (fun _ _=>trivial) n0_.out n7_.out HW8.out ?aL ?_
      case aP=>exact kPf_mkM wf _ _ _ (prO x) (Kd.R_apart' HA.out (Kd.R_typed n0_.out) (by decide)) (Kd.R_apart' HT.out (Kd.R_typed n0_.out) (show ∀ q,q ∈ [69] → q ≠ 51 by decide))
      case aL=>have:=HF0.out.2;have:=HLT.out;have:=HY.out.2;omega
      intro v1 w9 ho hb hg hat
      have k0_:=ö ho
      have k1_:=ö (Kd.R_over' n1_.out (Kd.R_typed n0_.out) (by decide) hg)
      have k2_:=ö (Kd.R_over' n2_.out (Kd.R_typed n0_.out) (by decide) hg)
      have k3_:=ö (Kd.R_over' n3_.out (Kd.R_typed n0_.out) (by decide) hg)
      have k4_:=ö (Kd.R_over' n4_.out (Kd.R_typed n0_.out) (by decide) hg)
      have k5_:=ö (blk_grown n5_.out hg (Kd.R_ne n0_.out n5_.out (by decide)))
      have k6_:=ö (blk_grown n6_.out hg (Kd.R_ne n0_.out n6_.out (by decide)))
      have k7_:=ö hb
      clear n0_ n1_ n2_ n3_ n4_ n5_ n6_ n7_ HA HT ho hb hg hat hHeld
      obtain ⟨A1,c1,e1⟩:=Kd.R_slice k0_.out
      subst e1
      refine hK.out _ _ ⟨⟨(blk_cell k6_.out 0).trans rfl,(blk_cell k6_.out 1).trans rfl,(blk_cell k6_.out 2).trans rfl,(blk_cell k6_.out 3).trans rfl,(blk_cell k6_.out 4).trans rfl⟩,(k7_.out.cell (World.block_lt_of_cell? w _ HXO.out)).trans HXO.out⟩ (fun hHeld=>?_)
      clear hK K
      refine norm_ (a':=?_) ?_ ?_
      rotate_left
      ·show Act.put _ (some 31) _ = _
       simp only [Act.put,ä,List.set_cons_zero,List.set_cons_succ,i64_w,i32_w]
       rfl
      refine pure_ (i:=12) (N:=some 32) (v:=?_) (a':=?_) #[true,true,true,true,true,true,true,true,true,true,true,true,true,false] rfl rfl (any_of HT_.out (by kernel_rfl)) (fun _ _ _ h=>h) (Or.inl ⟨by rfl,?_⟩) ?_ ?_
      rotate_left
      ·intro w'
       go_simp
       with_reducible rfl
      rotate_left
      ·(try simp only [Act.put,ä,List.set_cons_zero,List.set_cons_succ,i64_w,i32_w])
       rfl
      refine last_ (i:=13) (N:=none) #[true,true,true,true,true,true,true,true,true,true,true,true,true,true] rfl rfl (one_of HT_.out (by kernel_rfl)) (by decide) (fun K hK=>?_)
      have hs44 : w9.cell? ⟨gb1,0,none⟩ = some (.slice Av ys.length cv):=(blk_cell k6_.out 0).trans rfl
      have hfs44:=blk_frozen k6_.out 0
      refine skip_ (w1:=?_) (by rfl) rfl ?_ ?_
      rotate_left
      ·go_simp
       rfl
      refine hK.out _ _ ?_
      clear hK K
      refine done_ (done_of HT_.out (by kernel_rfl)) ?_
      try go_wp2
      go_roundg (l0.length - (kk + 1))
      case measure=>omega
      case rel =>
       have el : (ys ++ [prO x]).length = ys.length + 1:=by simp
       refine ⟨kk + 1,_,ys ++ [prO x],Nat.succ_le_of_lt HLT.out,Nat.le_refl _,(by rw [wrap_succ (by have:=HF0.out.2;have:=HLT.out;omega)]),⟨HGR.out.symm,by rw [el,HY.out.2]⟩,⟨?_⟩,⟨Kd.R_set k1_.out k6_.out (by decide) 0 _⟩,⟨Kd.R_set k2_.out k6_.out (by decide) 0 _⟩,⟨Kd.R_set k3_.out k6_.out (by decide) 0 _⟩,⟨Kd.R_set k4_.out k6_.out (by decide) 0 _⟩,⟨blk_far (p:=⟨gb1,0,none⟩) k5_.out NB.out _⟩,⟨bp5_0_ k6_.out⟩,⟨below_set k7_.out GE1.out⟩⟩
       have z:=Kd.R_set k0_.out k6_.out (kPf_29 wf) 0 (.slice A1 (ys.length + 1) c1)
       rw [el] at z
       exact z
    ·have hltz : decide ((kk : Int) < (l0.length : Int)) = false:=decide_eq_false (by omega)
     have e : ys = l0.map prO:=by rw [HY.out.1,show kk = l0.length by omega,List.take_length]
     have HE:=ö e
     clear e
     obtain ⟨hcz_0,hcz_1,hcz_2,hcz_3,hcz_4,hfz_0,hfz_1,hfz_2,hfz_3,hfz_4⟩:=bz5_ BK1
     obtain ⟨hcy_0,hcy_1,hcy_2,hcy_3,hcy_4,hfy_0,hfy_1,hfy_2,hfy_3,hfy_4⟩:=bz5_ BK
     have hnb:=NB.out;have hnc:=NC.out
     go_wp2
     refine bodyPost_ret (results_cell_row rfl _ _ gb 33 #[.slice Av ys.length cv,.slice B0 3 d0,.slice B1 2 d1,.slice B2 2 d2,.slice B3 ([] : List S38).length d3] (0,0) _ rfl (by apply bp5_4_;apply bp5_3_;apply bp5_2_;apply bp5_1_;apply bp5_0_;exact BK.out) Try.underlying33 rfl (by kernel_rfl)) rfl ?_
     have z0:=set5_ (.slice Av ys.length cv) (.slice B0 3 d0) (.slice B1 2 d1) (.slice B2 2 d2) (.slice B3 ([] : List S38).length d3) HU.out BK.out (kPf_29 wf)
     have z1:=set5_ (.slice Av ys.length cv) (.slice B0 3 d0) (.slice B1 2 d1) (.slice B2 2 d2) (.slice B3 ([] : List S38).length d3) HC.out BK.out (by decide)
     have z2:=set5_ (.slice Av ys.length cv) (.slice B0 3 d0) (.slice B1 2 d1) (.slice B2 2 d2) (.slice B3 ([] : List S38).length d3) HR.out BK.out (by decide)
     have z3:=set5_ (.slice Av ys.length cv) (.slice B0 3 d0) (.slice B1 2 d1) (.slice B2 2 d2) (.slice B3 ([] : List S38).length d3) HZ.out BK.out (by decide)
     have z4:=set5_ (.slice Av ys.length cv) (.slice B0 3 d0) (.slice B1 2 d1) (.slice B2 2 d2) (.slice B3 ([] : List S38).length d3) HD.out BK.out (by decide)
     have zb:=below_set (v:=.slice B3 ([] : List S38).length d3) (j:=4) (below_set (v:=.slice B2 2 d2) (j:=3) (below_set (v:=.slice B1 2 d1) (j:=2) (below_set (v:=.slice B0 3 d0) (j:=1) (below_set (v:=.slice Av ys.length cv) (j:=0) HB.out GE.out) GE.out) GE.out) GE.out) GE.out
     rw [HE.out] at z0
     refine ⟨_,_,_,_,_,rfl,⟨?_,z1,z2,z3,z4⟩,zb⟩
     rw [HE.out]
     exact z0
 | false =>
  clear hlen
  go_enter Try.func24,Try.ntmps24
  go_wp2_with (first | ((with_reducible refine gate_dst (N:=2) rfl ?_);refine box_event ?hg (N:=2) ?hd (cs:=#[.slice none 0 0,.slice none 0 0,.slice none 0 0,.slice none 0 0,.slice none 0 0]) (t:=33) ?hr ?_;(case hd=>rfl);(case hg=>rfl);(case hr=>first | (go_simp;done) | (go_simp;rfl));intro gb hg w5 hbox hb;have n0_:=ö (below_step (q0_ HB) hb);have n1_:=ö (hbox);have GE:=ö ((by rw [hg];exact (below_size (q0_ HB)) : w.heap.size ≤ gb));clear HB;have HB:=n0_;have BK:=n1_;clear n0_ n1_;clear hb hbox hg) | (go_at_call 22;(with_reducible refine (spec_ProgOk.calls k _ _ l0 false _ ?side1 ?side2 A2.out).mono ?_);(case side1=>repeat (first | exact (Kd.C_below (Kd.C_below (kMs_C HR0.out) HWF.out) HB.out) | (with_reducible refine Kd.C_alloc ?_ _) | (with_reducible refine Kd.C_drewN ?_ _) | (with_reducible refine Kd.C_drew ?_)));(case side2=>exact HC0.out);rintro e w6 ⟨rfl,hb⟩;have n0_:=ap2 (blk_below (g:=gb) (o:=.cells #[.slice none 0 0,.slice none 0 0,.slice none 0 0,.slice none 0 0,.slice none 0 0] 33 (0,0)) (q1_ BK) hb) (below_step (q2_ HB GE) hb);clear BK HB hb;obtain ⟨BK,HB⟩:=n0_;obtain ⟨hcz_0,hcz_1,hcz_2,hcz_3,hcz_4,hfz_0,hfz_1,hfz_2,hfz_3,hfz_4⟩:=bz5_ BK))
  refine bodyPost_ret (results_cell_row rfl _ _ gb 33 #[.slice none 0 0,.slice none 0 0,.slice none 0 0,.slice none 0 0,.slice none 0 0] (0,0) _ rfl (by apply bp5_4_;apply bp5_3_;apply bp5_2_;apply bp5_1_;apply bp5_0_;exact BK.out) Try.underlying33 rfl (by kernel_rfl)) rfl ?_
  exact ⟨_,_,_,_,_,rfl,⟨rfl,rfl,rfl,rfl,rfl⟩,below_set (below_set (below_set (below_set (below_set HB.out GE.out) GE.out) GE.out) GE.out) GE.out⟩
end Go.Proofs.Ytfbocgagfodgnaa.P

namespace Go.Proofs.Ytfbocgagfodgnaa.P
open Go.Proofs.YtfbocgagfodgnaaW.PrintWords renaming Aside0.mk → ö
open List renaming setIfInBounds_toArray → ä, set_cons_zero → ü, set_cons_succ → é
open Go renaming World.block_lt_of_cell? → è
open Go.RowKit Go.Proofs.YtfbocgagfodgnaaW.PrintWords Go.Proofs.YtfbocgagfodgnaaW.PrintLast Go.Proofs.YtfbocgagfodgnaaW.PrintMore
attribute [local go_sem] max2_int min2_int max_two min_two max_three min_three max_four min_four
set_option linter.unusedVariables false
set_option linter.unusedSimpArgs false
def l3copy_T1 : Bool × List (List Nat × List Nat):=(true,[([],[]),([],[]),([1],[1]),([0,2],[0,2]),([],[]),([],[]),([5],[5]),([4,6,3],[4,6]),([],[]),([],[]),([9],[9]),([8,10,7],[8,10]),([3,7,11],[3,7,11]),([],[]),([13,12,11,0,1,2,3,4,5,6,7,8,9,10,11,12,13],[12,13])])
def l3copy_B1 : List Nat:=[0,0,2,7,0,0,32,127,0,0,512,2047,4095,0,16383]
theorem l3copy_tab1 : rtab .any (opsOf Try.f41 1) = l3copy_T1:=by kernel_rfl
theorem l3copy_bits1 : waitsOk l3copy_T1.2 l3copy_B1 = true:=by kernel_rfl
def l3copy_T5 : Bool × List (List Nat × List Nat):=(true,[([],[]),([0],[0]),([],[]),([],[]),([3],[3]),([],[]),([4,5],[4,5]),([6],[6]),([2,7],[2,7]),([8],[8]),([1,9,8],[1,9]),([0,1,2,3,4,5,6,7,8,9,10],[]),([11,10,10,0,1,2,3,4,5,6,7,8,9,10],[10,11])])
def l3copy_B5 : List Nat:=[0,1,0,0,8,0,56,120,252,508,1023,2047,4095]
theorem l3copy_tab5 : rtab .any (opsOf Try.f41 5) = l3copy_T5:=by kernel_rfl
theorem l3copy_bits5 : waitsOk l3copy_T5.2 l3copy_B5 = true:=by kernel_rfl
theorem plain_ {P : Program} {ops : Array Oper} {rest : List Oper} {o : Oper} {a : Act} {Q : Exit → Act → World → Prop} {W : World} (hgd : o.guard = none) (h : ∀ Kc : Act → World → Prop,(∀ a' w',wpList P ops Q rest a' w' → Kc a' w') → if Region.wanted o (yielded ops a.tmps) = true then Oper.wp P o a W Kc Q else Kc (a.put o.dst undef) W) : wpList P ops Q (o :: rest) a W:=by
  refine wpList_plain hgd fun K hK=>?_
  have h1:=h K hK
  rwa [if_pos (wanted_none _ hgd)] at h1
structure K3 (wf w : World) (g1 g2 g3 : Nat) (a0 a1 a2 a3 a4 u0 u1 u2 u3 u4 : Value) (ok : Nat → Prop) (ps : List S51) (x1 x2 : List Int) (ss : List (List Int)) (x4 : List S38) (W : World) : Prop where
  b1 : W.heap[g1]? = some (.cells #[a0,a1,a2,a3,a4] 33 (0,0))
  b2 : W.heap[g2]? = some (.cells #[.slice none 0 0,.slice none 0 0,.slice none 0 0,.slice none 0 0,.slice none 0 0] 33 (0,0))
  b3 : W.heap[g3]? = some (.cells #[u0,u1,u2,u3,u4] 33 (0,0))
  r0 : Kd.R (kP wf) 51 W w.heap.size ok u0 ps
  r1 : Kd.R (Kd.int .i64) 3 W w.heap.size ok u1 x1
  r2 : Kd.R (Kd.int .i64) 3 W w.heap.size ok u2 x2
  r3 : Kd.R kQ 26 W w.heap.size ok u3 ss
  r4 : Kd.R k38 38 W w.heap.size ok u4 x4
  n1 : g1 ≠ g2
  n2 : g1 ≠ g3
  n3 : g2 ≠ g3
  e2 : w.heap.size ≤ g2
  e3 : w.heap.size ≤ g3
  bel : Below w.heap.size w W
section
variable {wf w W W' : World} {g1 g2 g3 : Nat} {a0 a1 a2 a3 a4 u0 u1 u2 u3 u4 : Value} {ok : Nat → Prop} {ps : List S51} {x1 x2 : List Int} {ss : List (List Int)} {x4 : List S38}
theorem K3.below (h : K3 wf w g1 g2 g3 a0 a1 a2 a3 a4 u0 u1 u2 u3 u4 ok ps x1 x2 ss x4 W) (hb : Below W.heap.size W W') : K3 wf w g1 g2 g3 a0 a1 a2 a3 a4 u0 u1 u2 u3 u4 ok ps x1 x2 ss x4 W' :=
  ⟨blk_below h.b1 hb,blk_below h.b2 hb,blk_below h.b3 hb,Kd.R_below h.r0 hb,Kd.R_below h.r1 hb,Kd.R_below h.r2 hb,Kd.R_below h.r3 hb,Kd.R_below h.r4 hb,h.n1,h.n2,h.n3,h.e2,h.e3,below_step h.bel hb⟩
theorem K3.any (h : K3 wf w g1 g2 g3 a0 a1 a2 a3 a4 u0 u1 u2 u3 u4 ok ps x1 x2 ss x4 W) : K3 wf w g1 g2 g3 a0 a1 a2 a3 a4 u0 u1 u2 u3 u4 (fun _=>True) ps x1 x2 ss x4 W :=
  ⟨h.b1,h.b2,h.b3,Kd.R_mono h.r0 (fun _ _=>trivial),Kd.R_mono h.r1 (fun _ _=>trivial),Kd.R_mono h.r2 (fun _ _=>trivial),Kd.R_mono h.r3 (fun _ _=>trivial),Kd.R_mono h.r4 (fun _ _=>trivial),h.n1,h.n2,h.n3,h.e2,h.e3,h.bel⟩
theorem K3.elder (h : K3 wf w g1 g2 g3 a0 a1 a2 a3 a4 u0 u1 u2 u3 u4 (fun _=>True) ps x1 x2 ss x4 W) (g4 : Nat) (hg : W.heap.size ≤ g4) : K3 wf w g1 g2 g3 a0 a1 a2 a3 a4 u0 u1 u2 u3 u4 (fun k=>k ≠ g4) ps x1 x2 ss x4 W ∧ g1 ≠ g4 ∧ g2 ≠ g4 ∧ g3 ≠ g4 ∧ w.heap.size ≤ g4:=by
  have l1:=blk_lt h.b1
  have l2:=blk_lt h.b2
  have l3:=blk_lt h.b3
  have l4:=h.bel.size
  exact ⟨⟨h.b1,h.b2,h.b3,Kd.R_mono (Kd.R_elderB h.r0 g4 hg) (fun _ hk=>hk.2),Kd.R_mono (Kd.R_elderB h.r1 g4 hg) (fun _ hk=>hk.2),Kd.R_mono (Kd.R_elderB h.r2 g4 hg) (fun _ hk=>hk.2),Kd.R_mono (Kd.R_elderB h.r3 g4 hg) (fun _ hk=>hk.2),Kd.R_mono (Kd.R_elderB h.r4 g4 hg) (fun _ hk=>hk.2),h.n1,h.n2,h.n3,h.e2,h.e3,h.bel⟩,by omega,by omega,by omega,by omega⟩
theorem K3.put {g4 : Nat} (h : K3 wf w g1 g2 g3 a0 a1 a2 a3 a4 u0 u1 u2 u3 u4 (fun k=>k ≠ g4) ps x1 x2 ss x4 W) (hg : g1 ≠ g4 ∧ g2 ≠ g4 ∧ g3 ≠ g4 ∧ w.heap.size ≤ g4) (j : Nat) (v : Value) : K3 wf w g1 g2 g3 a0 a1 a2 a3 a4 u0 u1 u2 u3 u4 (fun k=>k ≠ g4) ps x1 x2 ss x4 (W.setCell ⟨g4,j,none⟩ v) :=
  ⟨blk_far (p:=⟨g4,j,none⟩) h.b1 hg.1 v,blk_far (p:=⟨g4,j,none⟩) h.b2 hg.2.1 v,blk_far (p:=⟨g4,j,none⟩) h.b3 hg.2.2.1 v,Kd.R_far (p:=⟨g4,j,none⟩) h.r0 (fun _ hk=>hk) v,Kd.R_far (p:=⟨g4,j,none⟩) h.r1 (fun _ hk=>hk) v,Kd.R_far (p:=⟨g4,j,none⟩) h.r2 (fun _ hk=>hk) v,Kd.R_far (p:=⟨g4,j,none⟩) h.r3 (fun _ hk=>hk) v,Kd.R_far (p:=⟨g4,j,none⟩) h.r4 (fun _ hk=>hk) v,h.n1,h.n2,h.n3,h.e2,h.e3,below_set h.bel hg.2.2.2⟩
theorem kP_25 (wf : World) : ∀ q,q ∈ 51 :: (kP wf).E → q ≠ 26:=show ∀ q,q ∈ [51,3,69,69,69] → q ≠ 26 by decide
theorem K3.over3 {u3' : Value} {ss' : List (List Int)} (h : K3 wf w g1 g2 g3 a0 a1 a2 a3 a4 u0 u1 u2 u3 u4 (fun _=>True) ps x1 x2 ss x4 W) (hg : W.grownBy W' u3.ownBlock) (ho : Kd.R kQ 26 W' w.heap.size (fun _=>True) u3' ss') (hb : Below w.heap.size w W') :
    W'.heap[g1]? = some (.cells #[a0,a1,a2,a3,a4] 33 (0,0)) ∧ W'.heap[g3]? = some (.cells #[u0,u1,u2,u3,u4] 33 (0,0)) ∧ K3 wf w g1 g2 g3 a0 a1 a2 a3 a4 u0 u1 u2 u3' u4 (fun _=>True) ps x1 x2 ss' x4 (W'.setCell ⟨g3,3,none⟩ u3'):=by
  have b1:=blk_grown h.b1 hg (Kd.R_ne h.r3 h.b1 (by decide))
  have b2:=blk_grown h.b2 hg (Kd.R_ne h.r3 h.b2 (by decide))
  have b3:=blk_grown h.b3 hg (Kd.R_ne h.r3 h.b3 (by decide))
  have ty:=Kd.R_typed h.r3
  exact ⟨b1,b3,blk_far (p:=⟨g3,3,none⟩) b1 h.n2 _,blk_far (p:=⟨g3,3,none⟩) b2 h.n3 _,bp5_3_ b3,Kd.R_set (Kd.R_over' h.r0 ty (kP_25 wf) hg) b3 (kP_29 wf) 3 _,Kd.R_set (Kd.R_over' h.r1 ty (by decide) hg) b3 (by decide) 3 _,Kd.R_set (Kd.R_over' h.r2 ty (by decide) hg) b3 (by decide) 3 _,Kd.R_set ho b3 (by decide) 3 _,Kd.R_set (Kd.R_over' h.r4 ty (by decide) hg) b3 (by decide) 3 _,h.n1,h.n2,h.n3,h.e2,h.e3,below_set hb h.e3⟩
theorem K3.over0 {u0' : Value} {ps' : List S51} {g4 : Nat} (h : K3 wf w g1 g2 g3 a0 a1 a2 a3 a4 u0 u1 u2 u3 u4 (fun k=>k ≠ g4) ps x1 x2 ss x4 W) (hg : W.grownBy W' u0.ownBlock) (ho : Kd.R (kP wf) 51 W' w.heap.size (fun k=>k ≠ g4) u0' ps') (hb : Below w.heap.size w W') :
    W'.heap[g3]? = some (.cells #[u0,u1,u2,u3,u4] 33 (0,0)) ∧ K3 wf w g1 g2 g3 a0 a1 a2 a3 a4 u0' u1 u2 u3 u4 (fun _=>True) ps' x1 x2 ss x4 (W'.setCell ⟨g3,0,none⟩ u0'):=by
  have b1:=blk_grown h.b1 hg (Kd.R_ne h.r0 h.b1 (by decide))
  have b2:=blk_grown h.b2 hg (Kd.R_ne h.r0 h.b2 (by decide))
  have b3:=blk_grown h.b3 hg (Kd.R_ne h.r0 h.b3 (by decide))
  have ty:=Kd.R_typed h.r0
  have k : K3 wf w g1 g2 g3 a0 a1 a2 a3 a4 u0' u1 u2 u3 u4 (fun k=>k ≠ g4) ps' x1 x2 ss x4 (W'.setCell ⟨g3,0,none⟩ u0'):=⟨blk_far (p:=⟨g3,0,none⟩) b1 h.n2 _,blk_far (p:=⟨g3,0,none⟩) b2 h.n3 _,bp5_0_ b3,Kd.R_set ho b3 (kP_29 wf) 0 _,Kd.R_set (Kd.R_over' h.r1 ty (by decide) hg) b3 (by decide) 0 _,Kd.R_set (Kd.R_over' h.r2 ty (by decide) hg) b3 (by decide) 0 _,Kd.R_set (Kd.R_over' h.r3 ty (by decide) hg) b3 (by decide) 0 _,Kd.R_set (Kd.R_over' h.r4 ty (by decide) hg) b3 (by decide) 0 _,h.n1,h.n2,h.n3,h.e2,h.e3,below_set hb h.e3⟩
  exact ⟨b3,k.any⟩
end
def gC (n : Nat) (x1 x2 : List Int) (x4 : List S38) (m i : Nat) (vs : Nat → Value) (W : World) (v : Value) : Prop :=
  match i with
  | 0=>∃ g,v = .slice (some ⟨g,0,none⟩) 0 0 ∧ Kd.R (Kd.int .i64) 3 W n (fun _=>True) v []
  | 4=>∃ g,v = .slice (some ⟨g,0,none⟩) 0 0 ∧ Kd.R (Kd.int .i64) 3 W n (fun _=>True) v []
  | 8=>∃ g,v = .slice (some ⟨g,0,none⟩) 0 0 ∧ Kd.R k38 38 W n (fun _=>True) v []
  | 3=>Kd.R (Kd.int .i64) 3 W n (fun _=>True) v x1
  | 7=>Kd.R (Kd.int .i64) 3 W n (fun _=>True) v x2
  | 11=>Kd.R k38 38 W n (fun _=>True) v x4
  | 12=>v = .agg #[.slice none 0 0,vs 3,vs 7,.slice none 0 0,vs 11]
  | _=>∃ gb,v = .pointer (some ⟨gb,0,none⟩) ∧ m ≤ gb ∧ W.heap[gb]? = some (.cells nils5 33 (0,0))
theorem gC_mono (n : Nat) (x1 x2 : List Int) (x4 : List S38) (m i : Nat) (vs : Nat → Value) (W W' : World) (v : Value) (hb : Below W.heap.size W W') (h : gC n x1 x2 x4 m i vs W v) : gC n x1 x2 x4 m i vs W' v:=by
  unfold gC at h ⊢
  split at h
  · obtain ⟨g,e,h⟩:=h;exact ⟨g,e,Kd.R_below h hb⟩
  · obtain ⟨g,e,h⟩:=h;exact ⟨g,e,Kd.R_below h hb⟩
  · obtain ⟨g,e,h⟩:=h;exact ⟨g,e,Kd.R_below h hb⟩
  · exact Kd.R_below h hb
  · exact Kd.R_below h hb
  · exact Kd.R_below h hb
  · exact h
  · obtain ⟨g,e,hg,h⟩:=h;exact ⟨g,e,hg,blk_below h hb⟩
def gG (n : Nat) (x : List Int) (i : Nat) (vs : Nat → Value) (W : World) (v : Value) : Prop :=
  match i with
  | 2=>∃ g,v = .slice (some ⟨g,0,none⟩) 0 0 ∧ Kd.R (Kd.int .i64) 3 W n (fun _=>True) v []
  | _=>Kd.R (Kd.int .i64) 3 W n (fun _=>True) v x ∧ (x = [] → ∃ A,v = .slice A 0 0)
theorem gG_mono (n : Nat) (x : List Int) (i : Nat) (vs : Nat → Value) (W W' : World) (v : Value) (hb : Below W.heap.size W W') (h : gG n x i vs W v) : gG n x i vs W' v:=by
  unfold gG at h ⊢
  split at h
  · obtain ⟨g,e,h⟩:=h;exact ⟨g,e,Kd.R_below h hb⟩
  · exact ⟨Kd.R_below h.1 hb,h.2⟩
structure Len3 (x0 : List S51) (x1 x2 : List Int) (x3 : List (List Int)) (x4 : List S38) : Prop where
  l0 : x0.length ≤ 1000000000
  l1 : x1.length ≤ 1000000000
  l2 : x2.length ≤ 1000000000
  l3 : x3.length ≤ 1000000000
  l4 : x4.length ≤ 1000000000
  p0 : ∀ x ∈ x0,x.f0.length ≤ 1000000000
  p1 : ∀ x ∈ x0,x.f1.length ≤ 1000000000
  p3 : ∀ x ∈ x3,x.length ≤ 1000000000
theorem at_Pf {wf w : World} {A : Option Addr} {n : Nat} {xs : List S51} (h : Kd.C (kPf wf) w A n xs) (i : Int) (h0 : 0 ≤ i) (h1 : i < n) : ∃ ad A0 c0 A1 c1,A = some ad ∧ w.cell? (ad.add (i.toNat * 5)) = some (.slice A0 (rd_T51 xs i).f0.length c0) ∧ w.cell? ⟨(ad.add (i.toNat * 5)).block,(ad.add (i.toNat * 5)).off + 1,none⟩ = some (.slice A1 (rd_T51 xs i).f1.length c1) ∧ w.cell? ⟨(ad.add (i.toNat * 5)).block,(ad.add (i.toNat * 5)).off + 2,none⟩ = some (.int .i64 (rd_T51 xs i).f2) ∧ w.cell? ⟨(ad.add (i.toNat * 5)).block,(ad.add (i.toNat * 5)).off + 3,none⟩ = some (.int .i64 (rd_T51 xs i).f3) ∧ w.cell? ⟨(ad.add (i.toNat * 5)).block,(ad.add (i.toNat * 5)).off + 4,none⟩ = some (.int .i64 (rd_T51 xs i).f4) ∧ (rd_T51 xs i).f0.length ≤ c0 ∧ (Kd.int .i64).C w A0 (rd_T51 xs i).f0.length (rd_T51 xs i).f0 ∧ (rd_T51 xs i).f1.length ≤ c1 ∧ (Kd.fixed kM wf).C w A1 (rd_T51 xs i).f1.length (rd_T51 xs i).f1:=by
  obtain ⟨ad,c,e,_,hK,hc0⟩:=Kd.C_get h z51 i h0 h1
  have hc : ∀ j u,c[j]? = some u → w.cell? (ad.add (i.toNat * 5 + j)) = some u:=hc0
  obtain ⟨A0,c0,A1,c1,rfl,l0,g0,l1,g1⟩:=kPf_open hK
  exact ⟨ad,A0,c0,A1,c1,e,hc 0 _ rfl,by rw [← add_field _ _ 1 (by omega)];exact hc 1 _ rfl,by rw [← add_field _ _ 2 (by omega)];exact hc 2 _ rfl,by rw [← add_field _ _ 3 (by omega)];exact hc 3 _ rfl,by rw [← add_field _ _ 4 (by omega)];exact hc 4 _ rfl,l0,g0,l1,g1⟩
set_option maxHeartbeats 8000000 in
set_option maxRecDepth 100000 in
theorem l3copy_says (A0 : Option Addr) (c0 : Nat) (x0 : List S51) (A1 : Option Addr) (c1 : Nat) (x1 : List Int) (A2 : Option Addr) (c2 : Nat) (x2 : List Int) (A3 : Option Addr) (c3 : Nat) (x3 : List (List Int)) (A4 : Option Addr) (c4 : Nat) (x4 : List S38) (wf w : World) (h0 : Kd.C (kPf wf) w A0 x0.length x0) (h1 : Kd.C (Kd.int .i64) w A1 x1.length x1) (h2 : Kd.C (Kd.int .i64) w A2 x2.length x2) (h3 : Kd.C (Kd.slice 3 (Kd.int .i64)) w A3 x3.length x3) (h4 : Kd.C k38 w A4 x4.length x4) (hl : Len3 x0 x1 x2 x3 x4) :
    Calls Try.prog 41 #[.agg #[.slice A0 x0.length c0,.slice A1 x1.length c1,.slice A2 x2.length c2,.slice A3 x3.length c3,.slice A4 x4.length c4]] w fun e w'=>∃ v0 v1 v2 v3 v4 : Value,e = .returned (.agg #[v0,v1,v2,v3,v4]) ∧ RO (kP wf) w.heap.size w' x0 x1 x2 x3 x4 v0 v1 v2 v3 v4 ∧ Below w.heap.size w w':=by
  have hu29:=Try.underlying33
  have hu59:=Try.underlying51
  have HR0:=ö h0
  have HR1:=ö h1
  have HR2:=ö h2
  have HR3:=ö h3
  have HR4:=ö h4
  have HL:=ö hl
  clear h0 h1 h2 h3 h4 hl
  have HB:=ö (Below.refl w.heap.size w)
  go_enter Try.func41,Try.ntmps41
  go_wp2_with (first | ((with_reducible refine gate_dst (N:=1) rfl ?_);refine box_event ?hg (N:=1) ?hd (cs:=#[.slice A0 x0.length c0,.slice A1 x1.length c1,.slice A2 x2.length c2,.slice A3 x3.length c3,.slice A4 x4.length c4]) (t:=33) ?hr ?_;(case hd=>rfl);(case hg=>rfl);(case hr=>first | (go_simp;done) | (go_simp;rfl));intro g1 hg w5 hbox hb;have n0_:=ö (below_step (q0_ HB) hb);have n1_:=ö (hbox);have GE1:=ö ((by rw [hg];exact (below_size (q0_ HB)) : w.heap.size ≤ g1));clear HB;have HB:=n0_;have BK1:=n1_;clear n0_ n1_;clear hb hbox hg) | ((with_reducible refine gate_dst (N:=2) rfl ?_);refine box_event ?hg (N:=2) ?hd (cs:=#[.slice none 0 0,.slice none 0 0,.slice none 0 0,.slice none 0 0,.slice none 0 0]) (t:=33) ?hr ?_;(case hd=>rfl);(case hg=>rfl);(case hr=>first | (go_simp;done) | (go_simp;rfl));intro g2 hg w6 hbox hb;have n0_:=ö (blk_below BK1.out hb);have n1_:=ö (below_step HB.out hb);have n2_:=ö (hbox);have GE2:=ö ((by rw [hg];exact below_size HB.out) : w.heap.size ≤ g2);have N12:=ö ((by rw [hg];exact Nat.ne_of_lt (blk_lt BK1.out)) : g1 ≠ g2);clear BK1 HB;have BK1:=n0_;have HB:=n1_;have BK2:=n2_;clear n0_ n1_ n2_;clear hb hbox hg))
  have m1_:=ö (blk_drew BK1.out)
  have m2_:=ö (blk_drew BK2.out)
  have m7_:=ö (below_drew1 HB.out)
  clear BK1 BK2 HB
  refine start_ (n:=15) (S:=fun w'=>w'.cell? ⟨g1,1,none⟩ = some (.slice A1 x1.length c1) ∧ w'.cell? ⟨g1,2,none⟩ = some (.slice A2 x2.length c2) ∧ w'.cell? ⟨g1,4,none⟩ = some (.slice A4 x4.length c4)) (ds:=[14]) #[false,false,false,false,false,false,false,false,false,false,false,false,false,false,false] (by kernel_rfl) rfl rfl ⟨(blk_cell m1_.out 1).trans rfl,(blk_cell m1_.out 2).trans rfl,(blk_cell m1_.out 4).trans rfl⟩ (fun hHeld=>?_)
  refine with_tabW l3copy_tab1 l3copy_bits1 (fun HT_ HW_=>?_)
  generalize w6.drew = w7 at m1_ m2_ m7_ hHeld ⊢
  refine pure_ (i:=1) (N:=some 8) (v:=?_) (a':=?_) #[false,true,false,false,false,false,false,false,false,false,false,false,false,false,false] rfl rfl (any_of HT_.out (by kernel_rfl)) (fun _ _ _ h=>h) (Or.inl ⟨by rfl,?_⟩) ?_ ?_
  rotate_left
  · intro w'
    go_simp
    with_reducible rfl
  rotate_left
  · (try simp only [Act.put,ä,ü,é,i64_w,i32_w])
    rfl
  refine pure_ (i:=5) (N:=some 12) (v:=?_) (a':=?_) #[false,true,false,false,false,true,false,false,false,false,false,false,false,false,false] rfl rfl (any_of HT_.out (by kernel_rfl)) (fun _ _ _ h=>h) (Or.inl ⟨by rfl,?_⟩) ?_ ?_
  rotate_left
  · intro w'
    go_simp
    with_reducible rfl
  rotate_left
  · (try simp only [Act.put,ä,ü,é,i64_w,i32_w])
    rfl
  refine pure_ (i:=9) (N:=some 16) (v:=?_) (a':=?_) #[false,true,false,false,false,true,false,false,false,true,false,false,false,false,false] rfl rfl (any_of HT_.out (by kernel_rfl)) (fun _ _ _ h=>h) (Or.inl ⟨by rfl,?_⟩) ?_ ?_
  rotate_left
  · intro w'
    go_simp
    with_reducible rfl
  rotate_left
  · (try simp only [Act.put,ä,ü,é,i64_w,i32_w])
    rfl
  refine take_ (i:=2) (N:=some 9) (v:=?_) (a':=?_) #[false,true,true,false,false,true,false,false,false,true,false,false,false,false,false] rfl rfl (take_ofW HT_.out HW_.out (by kernel_rfl)) (fun _ _ _ h=>h) (Or.inl ⟨by rfl,?_⟩) hHeld ?_ ?_
  rotate_left
  · rintro w' ⟨s0,s1,s2⟩
    go_simp
    with_reducible rfl
  rotate_left
  · (try simp only [Act.put,ä,ü,é,i64_w,i32_w])
    rfl
  refine take_ (i:=6) (N:=some 13) (v:=?_) (a':=?_) #[false,true,true,false,false,true,true,false,false,true,false,false,false,false,false] rfl rfl (take_ofW HT_.out HW_.out (by kernel_rfl)) (fun _ _ _ h=>h) (Or.inl ⟨by rfl,?_⟩) hHeld ?_ ?_
  rotate_left
  · rintro w' ⟨s0,s1,s2⟩
    go_simp
    with_reducible rfl
  rotate_left
  · (try simp only [Act.put,ä,ü,é,i64_w,i32_w])
    rfl
  refine take_ (i:=10) (N:=some 17) (v:=?_) (a':=?_) #[false,true,true,false,false,true,true,false,false,true,true,false,false,false,false] rfl rfl (take_ofW HT_.out HW_.out (by kernel_rfl)) (fun _ _ _ h=>h) (Or.inl ⟨by rfl,?_⟩) hHeld ?_ ?_
  rotate_left
  · rintro w' ⟨s0,s1,s2⟩
    go_simp
    with_reducible rfl
  rotate_left
  · (try simp only [Act.put,ä,ü,é,i64_w,i32_w])
    rfl
  refine grow_ [(0,7),(3,10),(4,11),(7,14),(8,15),(11,18),(12,19),(13,3)] #[true,true,true,true,true,true,true,true,true,true,true,true,true,true,false] 68 rfl (by kernel_rfl) (fuel:=1) rfl (gC w.heap.size x1 x2 x4 w7.heap.size) (gC_mono w.heap.size x1 x2 x4 w7.heap.size) ?cong ?held ?step ?done
  case cong =>
    intro g hg oi hoi vs vs' w8 v hq h
    simp only [List.mem_cons,List.not_mem_nil,or_false] at hg
    rcases hg with rfl | rfl | rfl | rfl | rfl | rfl | rfl | rfl
    · exact h
    · exact h
    · exact h
    · exact h
    · exact h
    · exact h
    · obtain rfl:=same_ hoi rfl
      have h' : v = .agg #[.slice none 0 0,vs 3,vs 7,.slice none 0 0,vs 11]:=h
      show v = .agg #[.slice none 0 0,vs' 3,vs' 7,.slice none 0 0,vs' 11]
      rw [h',hq 3 (by decide),hq 7 (by decide),hq 11 (by decide)]
    · exact h
  case held =>
    intro W hb
    exact ⟨(hb.cell (è _ _ hHeld.1)).trans hHeld.1,(hb.cell (è _ _ hHeld.2.1)).trans hHeld.2.1,(hb.cell (è _ _ hHeld.2.2)).trans hHeld.2.2⟩
  case step =>
    intro g hg oi hoi a w8 vs hB hdep htm K hK
    have hS : w.heap.size ≤ w8.heap.size:=Nat.le_trans m7_.out.size hB.size
    simp only [List.mem_cons,List.not_mem_nil,or_false] at hg
    rcases hg with rfl | rfl | rfl | rfl | rfl | rfl | rfl | rfl
    · obtain rfl:=same_ hoi rfl
      refine lit0_step (Kd.int .i64) w.heap.size 3 (by rfl) ?hr hS ?_
      case hr=>first | (go_simp;done) | (go_simp;rfl)
      intro g w9 hg ho hb
      exact hK _ w9 hb ⟨g,rfl,ho⟩
    · obtain rfl:=same_ hoi rfl
      obtain ⟨⟨g3,e3,ho3⟩,f3⟩:=hdep (0,7) (by simp) (by decide)
      have f7:=htm 9 (by decide)
      rw [e3] at f3
      have ho4 : Kd.R (Kd.int .i64) 3 w8 w.heap.size (fun _=>True) (.slice (some ⟨g3,0,none⟩) 0 0) []:=by rw [← e3];exact ho3
      refine lit_append_step (Kd.int .i64) w.heap.size (by rfl) (.tmp 7) (.tmp 9) 26 3 (.int .i64 0) 8 rfl Try.underlying26 info3 rfl (show 0 < 1 by decide) g3 x1 A1 x1.length c1 (fun _=>True) f3 (f7.trans rfl) ho4 (Kd.C_below (Kd.C_below HR1.out m7_.out) hB) (fun _ _ h=>h) hS (by have:=HL.out.l1;omega) (by decide) ?_
      intro v1 w9 ho hb
      exact hK v1 w9 hb ho
    · obtain rfl:=same_ hoi rfl
      refine lit0_step (Kd.int .i64) w.heap.size 3 (by rfl) ?hr hS ?_
      case hr=>first | (go_simp;done) | (go_simp;rfl)
      intro g w9 hg ho hb
      exact hK _ w9 hb ⟨g,rfl,ho⟩
    · obtain rfl:=same_ hoi rfl
      obtain ⟨⟨g3,e3,ho3⟩,f3⟩:=hdep (4,11) (by simp) (by decide)
      have f7:=htm 13 (by decide)
      rw [e3] at f3
      have ho4 : Kd.R (Kd.int .i64) 3 w8 w.heap.size (fun _=>True) (.slice (some ⟨g3,0,none⟩) 0 0) []:=by rw [← e3];exact ho3
      refine lit_append_step (Kd.int .i64) w.heap.size (by rfl) (.tmp 11) (.tmp 13) 26 3 (.int .i64 0) 8 rfl Try.underlying26 info3 rfl (show 0 < 1 by decide) g3 x2 A2 x2.length c2 (fun _=>True) f3 (f7.trans rfl) ho4 (Kd.C_below (Kd.C_below HR2.out m7_.out) hB) (fun _ _ h=>h) hS (by have:=HL.out.l2;omega) (by decide) ?_
      intro v1 w9 ho hb
      exact hK v1 w9 hb ho
    · obtain rfl:=same_ hoi rfl
      refine lit0_step k38 w.heap.size 38 (by rfl) ?hr hS ?_
      case hr=>first | (go_simp;done) | (go_simp;rfl)
      intro g w9 hg ho hb
      exact hK _ w9 hb ⟨g,rfl,ho⟩
    · obtain rfl:=same_ hoi rfl
      obtain ⟨⟨g3,e3,ho3⟩,f3⟩:=hdep (8,15) (by simp) (by decide)
      have f7:=htm 17 (by decide)
      rw [e3] at f3
      have ho4 : Kd.R k38 38 w8 w.heap.size (fun _=>True) (.slice (some ⟨g3,0,none⟩) 0 0) []:=by rw [← e3];exact ho3
      refine lit_append_step k38 w.heap.size (by rfl) (.tmp 15) (.tmp 17) 23 38 (.agg #[(.int .i64 0),(.int .i64 0)]) 16 rfl Try.underlying23 info38 rfl (show 0 < 2 by decide) g3 x4 A4 x4.length c4 (fun _=>True) f3 (f7.trans rfl) ho4 (Kd.C_below (Kd.C_below HR4.out m7_.out) hB) (fun _ _ h=>h) hS (by have:=HL.out.l4;omega) (by decide) ?_
      intro v1 w9 ho hb
      exact hK v1 w9 hb ho
    · obtain rfl:=same_ hoi rfl
      obtain ⟨g0,e0⟩:=hdep (3,10) (by simp) (by decide)
      obtain ⟨g1_,e1⟩:=hdep (7,14) (by simp) (by decide)
      obtain ⟨g2_,e2⟩:=hdep (11,18) (by simp) (by decide)
      obtain ⟨B0,d0,f0⟩:=Kd.R_slice (g0 : Kd.R (Kd.int .i64) 3 w8 w.heap.size (fun _=>True) (vs 3) x1)
      obtain ⟨B1,d1,f1⟩:=Kd.R_slice (g1_ : Kd.R (Kd.int .i64) 3 w8 w.heap.size (fun _=>True) (vs 7) x2)
      obtain ⟨B2,d2,f2⟩:=Kd.R_slice (g2_ : Kd.R k38 38 w8 w.heap.size (fun _=>True) (vs 11) x4)
      refine value_ (N:=some 19) (w1:=w8) (v:=.agg #[.slice none 0 0,vs 3,vs 7,.slice none 0 0,vs 11]) (by rfl) rfl ?_ (hK _ _ (Below.refl _ _) rfl)
      simp only at e0 e1 e2
      rw [f0] at e0 ⊢
      rw [f1] at e1 ⊢
      rw [f2] at e2 ⊢
      clear hK hdep htm
      generalize a.eval = ρ at e0 e1 e2 ⊢
      clear hB g0 g1_ g2_ f0 f1 f2
      go_simp
      try simp only [e0,e1,e2]
      try rfl
    · obtain rfl:=same_ hoi rfl
      refine box_step (by rfl) (N:=3) rfl (cs:=nils5) (t:=33) ?hr ?_
      case hr=>first | (go_simp;done) | (go_simp;rfl)
      intro g1 hg1 w9 hbox hb
      exact hK _ w9 hb ⟨g1,rfl,by rw [hg1];exact hB.size,hbox⟩
  case done =>
    intro vs w8 hB hG
    have G3 : Kd.R (Kd.int .i64) 3 w8 w.heap.size (fun _=>True) (vs 3) x1:=hG (3,10) (by simp)
    have G7 : Kd.R (Kd.int .i64) 3 w8 w.heap.size (fun _=>True) (vs 7) x2:=hG (7,14) (by simp)
    have G11 : Kd.R k38 38 w8 w.heap.size (fun _=>True) (vs 11) x4:=hG (11,18) (by simp)
    have G12 : vs 12 = .agg #[.slice none 0 0,vs 3,vs 7,.slice none 0 0,vs 11]:=hG (12,19) (by simp)
    obtain ⟨g3,G13,GW3,hb3⟩:=(hG (13,3) (by simp) : ∃ gb,vs 13 = .pointer (some ⟨gb,0,none⟩) ∧ w7.heap.size ≤ gb ∧ w8.heap[gb]? = some (.cells nils5 33 (0,0)))
    obtain ⟨l0_,e0_,z0_⟩ : ∃ g,vs 0 = .slice (some ⟨g,0,none⟩) 0 0 ∧ Kd.R (Kd.int .i64) 3 w8 w.heap.size (fun _=>True) (vs 0) []:=hG (0,7) (by simp)
    obtain ⟨l4_,e4_,z4_⟩ : ∃ g,vs 4 = .slice (some ⟨g,0,none⟩) 0 0 ∧ Kd.R (Kd.int .i64) 3 w8 w.heap.size (fun _=>True) (vs 4) []:=hG (4,11) (by simp)
    obtain ⟨l8_,e8_,z8_⟩ : ∃ g,vs 8 = .slice (some ⟨g,0,none⟩) 0 0 ∧ Kd.R k38 38 w8 w.heap.size (fun _=>True) (vs 8) []:=hG (8,15) (by simp)
    refine norm_ (a':=?_) ?_ ?_
    rotate_left
    · simp only [puts,List.map_cons,List.map_nil,putAll,Act.put,ä,ü,é,G12,G13,e0_,e4_,e8_]
      rfl
    generalize vs 3 = u1 at G3 ⊢
    generalize vs 7 = u2 at G7 ⊢
    generalize vs 11 = u4 at G11 ⊢
    clear e0_ z0_ e4_ z4_ e8_ z8_ G12 G13 hG vs
    obtain ⟨B1,d1,e1⟩:=Kd.R_slice G3
    obtain ⟨B2,d2,e2⟩:=Kd.R_slice G7
    obtain ⟨B4,d4,e4⟩:=Kd.R_slice G11
    subst e1;subst e2;subst e4
    have BK3:=ö (show w8.heap[g3]? = some (.cells #[.slice none 0 0,.slice none 0 0,.slice none 0 0,.slice none 0 0,.slice none 0 0] 33 (0,0)) from hb3)
    have N13:=ö (show g1 ≠ g3 from by have:=blk_lt m1_.out;omega)
    have N23:=ö (show g2 ≠ g3 from by have:=blk_lt m2_.out;omega)
    have GE3:=ö (Nat.le_trans m7_.out.size GW3)
    have n1_:=ö (blk_below m1_.out hB)
    have n2_:=ö (blk_below m2_.out hB)
    have n7_:=ö (below_step m7_.out hB)
    have HC:=ö G3
    have HR:=ö G7
    have HD:=ö G11
    clear m1_ m2_ m7_ G3 G7 G11 GW3 hb3 hB hHeld
    refine last_ (i:=14) (N:=none) #[true,true,true,true,true,true,true,true,true,true,true,true,true,true,true] rfl rfl (one_of HT_.out (by kernel_rfl)) (by decide) (fun K hK=>?_)
    obtain ⟨hcz_0,hcz_1,hcz_2,hcz_3,hcz_4,hfz_0,hfz_1,hfz_2,hfz_3,hfz_4⟩:=bz5_ BK3
    refine skip_ (w1:=?_) (by rfl) rfl ?_ ?_
    rotate_left
    · go_simp
      rfl
    refine hK.out _ _ ?_
    clear hK K
    refine done_ (done_of HT_.out (by kernel_rfl)) ?_
    clear HT_ HW_
    try go_wp2
    have kb : K3 wf w g1 g2 g3 (.slice A0 x0.length c0) (.slice A1 x1.length c1) (.slice A2 x2.length c2) (.slice A3 x3.length c3) (.slice A4 x4.length c4) (.slice none 0 0) (.slice B1 x1.length d1) (.slice B2 x2.length d2) (.slice none 0 0) (.slice B4 x4.length d4) (fun _=>True) [] x1 x2 [] x4 (((((w8.setCell ⟨g3,0,none⟩ (.slice none 0 0)).setCell ⟨g3,1,none⟩ (.slice B1 x1.length d1)).setCell ⟨g3,2,none⟩ (.slice B2 x2.length d2)).setCell ⟨g3,3,none⟩ (.slice none 0 0)).setCell ⟨g3,4,none⟩ (.slice B4 x4.length d4)) :=
      ⟨blk_far (p:=⟨g3,4,none⟩) (blk_far (p:=⟨g3,3,none⟩) (blk_far (p:=⟨g3,2,none⟩) (blk_far (p:=⟨g3,1,none⟩) (blk_far (p:=⟨g3,0,none⟩) n1_.out N13.out _) N13.out _) N13.out _) N13.out _) N13.out _,
       blk_far (p:=⟨g3,4,none⟩) (blk_far (p:=⟨g3,3,none⟩) (blk_far (p:=⟨g3,2,none⟩) (blk_far (p:=⟨g3,1,none⟩) (blk_far (p:=⟨g3,0,none⟩) n2_.out N23.out _) N23.out _) N23.out _) N23.out _) N23.out _,
       by apply bp5_4_;apply bp5_3_;apply bp5_2_;apply bp5_1_;apply bp5_0_;exact BK3.out,
       Kd.R_nil _ _ _ _ _,set5_ _ _ _ _ _ HC.out BK3.out (by decide),set5_ _ _ _ _ _ HR.out BK3.out (by decide),Kd.R_nil _ _ _ _ _,set5_ _ _ _ _ _ HD.out BK3.out (by decide),N12.out,N13.out,N23.out,GE2.out,GE3.out,
       below_set (j:=4) (below_set (j:=3) (below_set (j:=2) (below_set (j:=1) (below_set (j:=0) n7_.out GE3.out) GE3.out) GE3.out) GE3.out) GE3.out⟩
    have KB:=ö kb
    clear kb n1_ n2_ n7_ BK3 HC HR HD hcz_0 hcz_1 hcz_2 hcz_3 hcz_4 hfz_0 hfz_1 hfz_2 hfz_3 hfz_4
    generalize (((((w8.setCell ⟨g3,0,none⟩ (.slice none 0 0)).setCell ⟨g3,1,none⟩ (.slice B1 x1.length d1)).setCell ⟨g3,2,none⟩ (.slice B2 x2.length d2)).setCell ⟨g3,3,none⟩ (.slice none 0 0)).setCell ⟨g3,4,none⟩ (.slice B4 x4.length d4)) = w9 at KB ⊢
    go_loopg [4] x3.length (fun gg v4 wr=>∃ (kk : Nat) (u : Value) (ys : List (List Int)),kk ≤ x3.length ∧ x3.length - kk ≤ gg ∧ v4 = .int .i64 kk ∧ Aside0 (ys = x3.take kk ∧ ys.length = kk) ∧ Aside0 (K3 wf w g1 g2 g3 (.slice A0 x0.length c0) (.slice A1 x1.length c1) (.slice A2 x2.length c2) (.slice A3 x3.length c3) (.slice A4 x4.length c4) (.slice none 0 0) (.slice B1 x1.length d1) (.slice B2 x2.length d2) u (.slice B4 x4.length d4) (fun _=>True) [] x1 x2 ys x4 wr))
    case atStart=>exact ⟨0,_,[],Nat.zero_le _,by omega,rfl,⟨rfl,rfl⟩,KB⟩
    case round =>
      clear KB
      obtain ⟨kk,uu,ys,hkk,hgk,rfl,HY,KB⟩:=hrel
      obtain ⟨Av,cv,eu⟩:=Kd.R_slice KB.out.r3
      subst eu
      by_cases hlt : kk < x3.length
      · have hltz : decide ((kk : Int) < (x3.length : Int)) = true:=decide_eq_true (by omega)
        have HLT:=ö hlt
        have p1 : 0 ≤ (kk : Int):=by omega
        have q1 : (kk : Int) < (x3.length : Int):=by omega
        obtain ⟨ad,Al,cl,ea,hx,hl,hi⟩:=atII HR3.out (kk : Int) p1 q1
        cases ea
        have hgx : rdII x3 (kk : Int) = x3[kk]'hlt:=by simp [rdII,List.getD_eq_getElem?_getD,List.getElem?_eq_getElem hlt]
        have hmem : rdII x3 (kk : Int) ∈ x3:=by rw [hgx];exact List.getElem_mem hlt
        have hdrop : x3.take (kk + 1) = ys ++ [rdII x3 (kk : Int)]:=by rw [HY.out.1,hgx,List.take_succ_eq_append_getElem hlt]
        generalize rdII x3 (kk : Int) = x at hx hl hi hmem hdrop
        have HLX:=ö hi
        have HFX:=ö (HL.out.p3 x hmem)
        have HGR:=ö hdrop
        simp only [Int.toNat_natCast] at hx
        have HXO:=ö hx
        replace hx:=(KB.out.bel.cell (è w _ hx)).trans hx
        clear hi hl hgx hmem hdrop
        replace p1:=eq_true p1
        replace q1:=eq_true q1
        have BZ1:=ö KB.out.b1
        obtain ⟨hcz_0,hcz_1,hcz_2,hcz_3,hcz_4,hfz_0,hfz_1,hfz_2,hfz_3,hfz_4⟩:=bz5_ BZ1
        try go_wp2
        have KC:=ö (KB.out.below (below_drew1 (Below.refl _ _)))
        clear KB BZ1
        refine start_ (n:=13) (S:=fun w'=>w'.cell? ⟨g3,3,none⟩ = some (.slice Av ys.length cv) ∧ w'.cell? ⟨g1,3,none⟩ = some (.slice (some ad) x3.length c3) ∧ w'.cell? (ad.add kk) = some (.slice Al x.length cl)) (ds:=[12]) #[false,false,false,false,false,false,false,false,false,false,false,false,false] (by kernel_rfl) rfl rfl ⟨(blk_cell KC.out.b3 3).trans rfl,(blk_cell KC.out.b1 3).trans rfl,hx⟩ (fun hHeld=>?_)
        refine with_tabW l3copy_tab5 l3copy_bits5 (fun HT_ HW_=>?_)
        clear hx
        generalize wr.drew = w10 at KC hHeld ⊢
        refine pure_ (i:=0) (N:=some 27) (v:=?_) (a':=?_) #[true,false,false,false,false,false,false,false,false,false,false,false,false] rfl rfl (any_of HT_.out (by kernel_rfl)) (fun _ _ _ h=>h) (Or.inl ⟨by rfl,?_⟩) ?_ ?_
        rotate_left
        · intro w'
          go_simp
          with_reducible rfl
        rotate_left
        · (try simp only [Act.put,ä,ü,é,i64_w,i32_w])
          rfl
        refine pure_ (i:=3) (N:=some 30) (v:=?_) (a':=?_) #[true,false,false,true,false,false,false,false,false,false,false,false,false] rfl rfl (any_of HT_.out (by kernel_rfl)) (fun _ _ _ h=>h) (Or.inl ⟨by rfl,?_⟩) ?_ ?_
        rotate_left
        · intro w'
          go_simp
          with_reducible rfl
        rotate_left
        · (try simp only [Act.put,ä,ü,é,i64_w,i32_w])
          rfl
        refine pure_ (i:=5) (N:=some 32) (v:=?_) (a':=?_) #[true,false,false,true,false,true,false,false,false,false,false,false,false] rfl rfl (any_of HT_.out (by kernel_rfl)) (fun _ _ _ h=>h) (Or.inl ⟨by rfl,?_⟩) ?_ ?_
        rotate_left
        · intro w'
          go_simp
          with_reducible rfl
        rotate_left
        · (try simp only [Act.put,ä,ü,é,i64_w,i32_w])
          rfl
        refine take_ (i:=1) (N:=some 28) (v:=?_) (a':=?_) #[true,true,false,true,false,true,false,false,false,false,false,false,false] rfl rfl (take_ofW HT_.out HW_.out (by kernel_rfl)) (fun _ _ _ h=>h) (Or.inl ⟨by rfl,?_⟩) hHeld ?_ ?_
        rotate_left
        · rintro w' ⟨s0,s1,s2⟩
          go_simp
          with_reducible rfl
        rotate_left
        · (try simp only [Act.put,ä,ü,é,i64_w,i32_w])
          rfl
        refine take_ (i:=4) (N:=some 31) (v:=?_) (a':=?_) #[true,true,false,true,true,true,false,false,false,false,false,false,false] rfl rfl (take_ofW HT_.out HW_.out (by kernel_rfl)) (fun _ _ _ h=>h) (Or.inl ⟨by rfl,?_⟩) hHeld ?_ ?_
        rotate_left
        · rintro w' ⟨s0,s1,s2⟩
          go_simp
          with_reducible rfl
        rotate_left
        · (try simp only [Act.put,ä,ü,é,i64_w,i32_w])
          rfl
        refine pure_ (i:=6) (N:=some 33) (v:=?_) (a':=?_) #[true,true,false,true,true,true,true,false,false,false,false,false,false] rfl rfl (any_of HT_.out (by kernel_rfl)) (fun _ _ _ h=>h) (Or.inl ⟨by rfl,?_⟩) ?_ ?_
        rotate_left
        · intro w'
          go_simp
          with_reducible rfl
        rotate_left
        · (try simp only [Act.put,ä,ü,é,i64_w,i32_w])
          rfl
        refine take_ (i:=7) (N:=some 34) (v:=?_) (a':=?_) #[true,true,false,true,true,true,true,true,false,false,false,false,false] rfl rfl (take_ofW HT_.out HW_.out (by kernel_rfl)) (fun _ _ _ h=>h) (Or.inl ⟨by rfl,?_⟩) hHeld ?_ ?_
        rotate_left
        · rintro w' ⟨s0,s1,s2⟩
          go_simp
          with_reducible rfl
        rotate_left
        · (try simp only [Act.put,ä,ü,é,i64_w,i32_w])
          rfl
        refine grow_ [(2,29),(8,35)] #[true,true,true,true,true,true,true,true,true,false,false,false,false] 68 rfl (by kernel_rfl) (fuel:=4) rfl (gG w.heap.size x) (gG_mono w.heap.size x) ?cong ?held ?step ?done
        case cong =>
          intro g hg oi hoi vs vs' w8 v hq h
          simp only [List.mem_cons,List.not_mem_nil,or_false] at hg
          rcases hg with rfl | rfl
          · exact h
          · exact h
        case held =>
          intro W hb
          exact ⟨(hb.cell (è _ _ hHeld.1)).trans hHeld.1,(hb.cell (è _ _ hHeld.2.1)).trans hHeld.2.1,(hb.cell (è _ _ hHeld.2.2)).trans hHeld.2.2⟩
        case step =>
          intro g hg oi hoi a w8 vs hB hdep htm K hK
          have hS : w.heap.size ≤ w8.heap.size:=Nat.le_trans KC.out.bel.size hB.size
          simp only [List.mem_cons,List.not_mem_nil,or_false] at hg
          rcases hg with rfl | rfl
          · obtain rfl:=same_ hoi rfl
            refine lit0_step (Kd.int .i64) w.heap.size 3 (by rfl) ?hr hS ?_
            case hr=>first | (go_simp;done) | (go_simp;rfl)
            intro g w9 hg ho hb
            exact hK _ w9 hb ⟨g,rfl,ho⟩
          · obtain rfl:=same_ hoi rfl
            obtain ⟨⟨g3,e3,ho3⟩,f3⟩:=hdep (2,29) (by simp) (by decide)
            have f7:=htm 34 (by decide)
            rw [e3] at f3
            have ho4 : Kd.R (Kd.int .i64) 3 w8 w.heap.size (fun _=>True) (.slice (some ⟨g3,0,none⟩) 0 0) []:=by rw [← e3];exact ho3
            refine lit_append_stepZ (Kd.int .i64) w.heap.size (by rfl) (.tmp 29) (.tmp 34) 26 3 (.int .i64 0) 8 rfl Try.underlying26 info3 rfl (show 0 < 1 by decide) g3 x Al x.length cl (fun _=>True) f3 (f7.trans rfl) ho4 (Kd.C_below (Kd.C_below HLX.out KC.out.bel) hB) (fun _ _ h=>h) hS (by have:=HFX.out;omega) (by decide) ?_
            intro v1 w9 ho hb hz
            exact hK v1 w9 hb ⟨ho,hz⟩
        case done =>
          intro vs w8 hB hG
          obtain ⟨G8,GZ⟩ : Kd.R (Kd.int .i64) 3 w8 w.heap.size (fun _=>True) (vs 8) x ∧ (x = [] → ∃ A,vs 8 = .slice A 0 0):=hG (8,35) (by simp)
          obtain ⟨g3_,e3,hz_⟩ : ∃ g,vs 2 = .slice (some ⟨g,0,none⟩) 0 0 ∧ Kd.R (Kd.int .i64) 3 w8 w.heap.size (fun _=>True) (vs 2) []:=hG (2,29) (by simp)
          refine norm_ (a':=?_) ?_ ?_
          rotate_left
          · simp only [puts,List.map_cons,List.map_nil,putAll,Act.put,ä,ü,é,e3]
            rfl
          generalize vs 8 = ub at G8 GZ ⊢
          clear e3 hz_ hG vs
          obtain ⟨Ab,cb,eb⟩:=Kd.R_slice G8
          subst eb
          have HT:=ö G8
          have HTZ:=ö GZ
          clear GZ
          have KD:=ö (KC.out.below hB)
          clear hHeld hB G8 KC
          refine one_ (i:=9) (N:=some 36) #[true,true,true,true,true,true,true,true,true,true,false,false,false] rfl rfl (one_of HT_.out (by kernel_rfl)) (by decide) (fun K hK=>?_)
          refine value_ (w1:=?_) (v:=?_) (by rfl) rfl ?_ ?_
          rotate_left 2
          · go_simp
            constructor
            · rfl
            · rfl
          have ha:=ö (KD.out.below (below_alloc (Below.refl w8.heap.size w8) (.cells #[.slice Ab x.length cb] 26 (0,0))))
          refine hK.out _ _ ⟨(blk_cell ha.out.b3 3).trans rfl,(blk_cell ha.out.b1 3).trans rfl,(ha.out.bel.cell (è w _ HXO.out)).trans HXO.out⟩ (fun hHeld=>?_)
          clear hK K
          refine norm_ (a':=?_) ?_ ?_
          rotate_left
          · show Act.put _ (some 36) _ = _
            simp only [Act.put,ä,ü,é,i64_w,i32_w]
            rfl
          refine one_ (i:=10) (N:=some 37) #[true,true,true,true,true,true,true,true,true,true,true,false,false] rfl rfl (one_of HT_.out (by kernel_rfl)) (by decide) (fun K hK=>?_)
          refine Kd.R_append_step kQ (w0:=w) w.heap.size (by rfl) (.tmp 28) (.tmp 36) 31 26 (.slice none 0 0) 24 rfl Try.underlying31 info26 rfl (by decide) (by omega) (.slice Av ys.length cv) ys x [.slice Ab x.length cb] (fun _=>True) (fun k_=>True ∧ some k_ ≠ (.slice Av ys.length cv : Value).ownBlock) rfl rfl ?aP (fun _ hk=>hk) (fun _ _=>trivial) KD.out.r3 KD.out.bel KD.out.bel.size ?aL ?_
          case aP=>exact ⟨⟨_,rfl,Kd.R_apart' HT.out (Kd.R_typed KD.out.r3) (by decide)⟩,fun e=>by obtain ⟨A,hA⟩:=HTZ.out e;exact ⟨A,by rw [hA]⟩⟩
          case aL=>have:=HL.out.l3;have:=HLT.out;have:=HY.out.2;omega
          intro v1 w9 ho hb hg hat
          obtain ⟨kb1,kb3,kk3⟩:=KD.out.over3 hg ho hb
          have KE:=ö kk3
          have KB3:=ö kb3
          have KB1:=ö kb1
          have KBB:=ö hb
          obtain ⟨Az,cz,ez⟩:=Kd.R_slice ho
          subst ez
          clear kk3 kb1 kb3 hg ho hb hat KD HT ha hHeld
          refine hK.out _ _ ⟨(blk_cell KB3.out 3).trans rfl,(blk_cell KB1.out 3).trans rfl,(KBB.out.cell (è w _ HXO.out)).trans HXO.out⟩ (fun hHeld=>?_)
          clear hK K
          refine norm_ (a':=?_) ?_ ?_
          rotate_left
          · show Act.put _ (some 37) _ = _
            simp only [Act.put,ä,ü,é,i64_w,i32_w]
            rfl
          refine pure_ (i:=11) (N:=some 38) (v:=?_) (a':=?_) #[true,true,true,true,true,true,true,true,true,true,true,true,false] rfl rfl (any_of HT_.out (by kernel_rfl)) (fun _ _ _ h=>h) (Or.inl ⟨by rfl,?_⟩) ?_ ?_
          rotate_left
          · intro w'
            go_simp
            with_reducible rfl
          rotate_left
          · (try simp only [Act.put,ä,ü,é,i64_w,i32_w])
            rfl
          refine last_ (i:=12) (N:=none) #[true,true,true,true,true,true,true,true,true,true,true,true,true] rfl rfl (one_of HT_.out (by kernel_rfl)) (by decide) (fun K hK=>?_)
          have hs44 : w9.cell? ⟨g3,3,none⟩ = some (.slice Av ys.length cv):=(blk_cell KB3.out 3).trans rfl
          have hfs44:=blk_frozen KB3.out 3
          refine skip_ (w1:=?_) (by rfl) rfl ?_ ?_
          rotate_left
          · go_simp
            rfl
          refine hK.out _ _ ?_
          clear hK K
          refine done_ (done_of HT_.out (by kernel_rfl)) ?_
          clear HT_ HW_
          try go_wp2
          go_roundg (x3.length - (kk + 1))
          case measure=>omega
          case rel =>
            have el : (ys ++ [x]).length = ys.length + 1:=by simp
            refine ⟨kk + 1,.slice Az (ys.length + 1) cz,ys ++ [x],Nat.succ_le_of_lt HLT.out,Nat.le_refl _,(by rw [wrap_succ (by have:=HL.out.l3;have:=HLT.out;omega)]),⟨HGR.out.symm,by rw [el,HY.out.2]⟩,⟨?_⟩⟩
            have z:=KE.out
            rw [el] at z
            exact z
      · have hltz : decide ((kk : Int) < (x3.length : Int)) = false:=decide_eq_false (by omega)
        have HE:=ö (show ys = x3 by rw [HY.out.1,show kk = x3.length by omega,List.take_length])
        have BZ1:=ö KB.out.b1
        obtain ⟨hcz_0,hcz_1,hcz_2,hcz_3,hcz_4,hfz_0,hfz_1,hfz_2,hfz_3,hfz_4⟩:=bz5_ BZ1
        try go_wp2
        have HYE:=HE.out
        subst HYE
        clear HY HE hcz_0 hcz_1 hcz_2 hcz_3 hcz_4 hfz_0 hfz_1 hfz_2 hfz_3 hfz_4 BZ1 hltz
        go_loopg [5] x0.length (fun gg v5 wr=>∃ (kk : Nat) (u : Value) (ps : List S51),kk ≤ x0.length ∧ x0.length - kk ≤ gg ∧ v5 = .int .i64 kk ∧ Aside0 (ps = x0.take kk ∧ ps.length = kk) ∧ Aside0 (K3 wf w g1 g2 g3 (.slice A0 x0.length c0) (.slice A1 x1.length c1) (.slice A2 x2.length c2) (.slice A3 ys.length c3) (.slice A4 x4.length c4) u (.slice B1 x1.length d1) (.slice B2 x2.length d2) (.slice Av ys.length cv) (.slice B4 x4.length d4) (fun _=>True) ps x1 x2 ys x4 wr))
        case atStart=>exact ⟨0,_,[],Nat.zero_le _,by omega,rfl,⟨rfl,rfl⟩,KB⟩
        case round =>
          clear KB hkk hgk hlt
          obtain ⟨kk,uu,ps,hkk,hgk,rfl,HY,KB⟩:=hrel
          obtain ⟨Au,cu,eu⟩:=Kd.R_slice KB.out.r0
          subst eu
          by_cases hlt : kk < x0.length
          · have hltz : decide ((kk : Int) < (x0.length : Int)) = true:=decide_eq_true (by omega)
            have HLT:=ö hlt
            have p1 : 0 ≤ (kk : Int):=by omega
            have q1 : (kk : Int) < (x0.length : Int):=by omega
            obtain ⟨ad,Ar,cr,At,ct,ea,hx0,hx1,hx2,hx3,hx4,hlr,hir,hlt_,hit⟩:=at_Pf HR0.out (kk : Int) p1 q1
            cases ea
            have hgx : rd_T51 x0 (kk : Int) = x0[kk]'hlt:=by simp [rd_T51,List.getD_eq_getElem?_getD,List.getElem?_eq_getElem hlt]
            have hmem : rd_T51 x0 (kk : Int) ∈ x0:=by rw [hgx];exact List.getElem_mem hlt
            have hdrop : x0.take (kk + 1) = ps ++ [rd_T51 x0 (kk : Int)]:=by rw [HY.out.1,hgx,List.take_succ_eq_append_getElem hlt]
            generalize rd_T51 x0 (kk : Int) = x at hx0 hx1 hx2 hx3 hx4 hlr hir hlt_ hit hmem hdrop
            have HRR:=ö hir
            have HRT:=ö hit
            have HF0:=ö (HL.out.p0 x hmem)
            have HF1:=ö (HL.out.p1 x hmem)
            have HGR:=ö hdrop
            simp only [Int.toNat_natCast] at hx0 hx1 hx2 hx3 hx4
            replace hx0:=(KB.out.bel.cell (è w _ hx0)).trans hx0
            replace hx1:=(KB.out.bel.cell (è w _ hx1)).trans hx1
            replace hx2:=(KB.out.bel.cell (è w _ hx2)).trans hx2
            replace hx3:=(KB.out.bel.cell (è w _ hx3)).trans hx3
            replace hx4:=(KB.out.bel.cell (è w _ hx4)).trans hx4
            clear hlr hir hlt_ hit hgx hmem hdrop
            replace p1:=eq_true p1
            replace q1:=eq_true q1
            have BZ1:=ö KB.out.b1
            obtain ⟨hcz_0,hcz_1,hcz_2,hcz_3,hcz_4,hfz_0,hfz_1,hfz_2,hfz_3,hfz_4⟩:=bz5_ BZ1
            go_wp2_with (first | ((with_reducible refine gate_dst (N:=6) rfl ?_);refine box_event ?hg (N:=6) ?hd (cs:=#[.slice none 0 0,.slice none 0 0,.int .i64 0,.int .i64 0,.int .i64 0]) (t:=51) ?hr ?_;(case hd=>rfl);(case hg=>rfl);(case hr=>first | (go_simp;done) | (go_simp;rfl));intro g4 hg w11 hbox hb;have HG4:=ö (KB.out.elder g4 (Nat.le_of_eq hg.symm)).2;have n0_:=ö ((KB.out.elder g4 (Nat.le_of_eq hg.symm)).1.below hb);have BK4:=ö hbox;clear KB hb hbox hg hx0 hx1 hx2 hx3 hx4 hcz_0 hcz_1 hcz_2 hcz_3 hcz_4 hfz_0 hfz_1 hfz_2 hfz_3 hfz_4 BZ1;have KB:=n0_;clear n0_;obtain ⟨hcz_0,hcz_1,hcz_2,hcz_3,hcz_4,hfz_0,hfz_1,hfz_2,hfz_3,hfz_4⟩:=bz5_ BK4) | ((with_reducible refine gate_dst (N:=51) rfl ?_);refine plain_ ?hg (fun K hK=>?_);(case hg=>rfl);refine lit0_step (Kd.int .i64) w.heap.size 3 (by rfl) ?hr ?hs ?_;(case hr=>first | (go_simp;done) | (go_simp;rfl));(case hs=>exact (((((KB.out.put HG4.out 0 _).put HG4.out 1 _).put HG4.out 2 _).put HG4.out 3 _).put HG4.out 4 _).bel.size);intro gl w12 hgl ho hb;refine hK _ _ ?_;clear hK K;have n0_:=ö ((((((KB.out.put HG4.out 0 _).put HG4.out 1 _).put HG4.out 2 _).put HG4.out 3 _).put HG4.out 4 _).below hb);have n1_:=ö (show w12.heap[g4]? = some (.cells #[.slice Ar x.f0.length cr,.slice At x.f1.length ct,.int .i64 x.f2,.int .i64 x.f3,.int .i64 x.f4] 51 (0,0)) from blk_below (by apply bp5_4_;apply bp5_3_;apply bp5_2_;apply bp5_1_;apply bp5_0_;exact BK4.out) hb);have HO:=ö ho;clear KB BK4 ho hb hgl hcz_0 hcz_1 hcz_2 hcz_3 hcz_4 hfz_0 hfz_1 hfz_2 hfz_3 hfz_4;have KB:=n0_;have BK4:=n1_;clear n0_ n1_;obtain ⟨hcz_0,hcz_1,hcz_2,hcz_3,hcz_4,hfz_0,hfz_1,hfz_2,hfz_3,hfz_4⟩:=bz5_ BK4) | ((with_reducible refine gate_dst (N:=54) rfl ?_);refine plain_ ?hg (fun K hK=>?_);(case hg=>rfl);refine lit_append_step (Kd.int .i64) w.heap.size (by rfl) (.tmp 51) (.tmp 53) 26 3 (.int .i64 0) 8 rfl Try.underlying26 info3 rfl (by decide) gl x.f0 Ar x.f0.length cr (fun _=>True) rfl rfl HO.out (Kd.C_below HRR.out KB.out.bel) (fun _ _ h=>h) KB.out.bel.size (by have:=HF0.out;omega) (by decide) ?_;intro va w13 ho hb;refine hK _ _ ?_;clear hK K;have n0_:=ö (KB.out.below hb);have n1_:=ö (blk_below BK4.out hb);have HA:=ö ho;clear KB BK4 HO ho hb hcz_0 hcz_1 hcz_2 hcz_3 hcz_4 hfz_0 hfz_1 hfz_2 hfz_3 hfz_4;have KB:=n0_;have BK4:=n1_;clear n0_ n1_;obtain ⟨Aa,ca,ea⟩:=Kd.R_slice HA.out;subst ea;obtain ⟨hcz_0,hcz_1,hcz_2,hcz_3,hcz_4,hfz_0,hfz_1,hfz_2,hfz_3,hfz_4⟩:=bz5_ BK4) | ((with_reducible refine gate_dst (N:=56) rfl ?_);refine plain_ ?hg (fun K hK=>?_);(case hg=>rfl);refine lit0_step (Kd.fixed kM wf) w.heap.size 69 (by rfl) ?hr ?hs ?_;(case hr=>first | (go_simp;done) | (go_simp;rfl));(case hs=>exact (KB.out.put HG4.out 0 _).bel.size);intro gl w14 hgl ho hb;refine hK _ _ ?_;clear hK K;have n0_:=ö ((KB.out.put HG4.out 0 _).below hb);have n1_:=ö (show w14.heap[g4]? = some (.cells #[.slice Aa x.f0.length ca,.slice At x.f1.length ct,.int .i64 x.f2,.int .i64 x.f3,.int .i64 x.f4] 51 (0,0)) from blk_below (bp5_0_ BK4.out) hb);have n2_:=ö (Kd.R_below (Kd.R_set HA.out BK4.out (by decide) 0 _) hb);have HO:=ö ho;clear KB BK4 HA ho hb hgl hcz_0 hcz_1 hcz_2 hcz_3 hcz_4 hfz_0 hfz_1 hfz_2 hfz_3 hfz_4;have KB:=n0_;have BK4:=n1_;have HA:=n2_;clear n0_ n1_ n2_;obtain ⟨hcz_0,hcz_1,hcz_2,hcz_3,hcz_4,hfz_0,hfz_1,hfz_2,hfz_3,hfz_4⟩:=bz5_ BK4) | ((with_reducible refine gate_dst (N:=59) rfl ?_);refine plain_ ?hg (fun K hK=>?_);(case hg=>rfl);refine lit_append_step (Kd.fixed kM wf) w.heap.size (by rfl) (.tmp 56) (.tmp 58) 49 69 (.agg #[(.int .i64 0),(.int .i64 0),(.int .i64 0),(.int .i64 0),(.slice none 0 0),(.slice none 0 0)]) 80 rfl Try.underlying49 info69 rfl (show 0 < 6 by decide) gl x.f1 At x.f1.length ct (fun _=>True) rfl rfl HO.out (Kd.C_below (d:=Kd.fixed kM wf) HRT.out KB.out.bel) (fun _ _ h=>h) KB.out.bel.size (by have:=HF1.out;omega) (by decide) ?_;intro va w15 ho hb;refine hK _ _ ?_;clear hK K;have n0_:=ö (KB.out.below hb);have n1_:=ö (blk_below BK4.out hb);have n2_:=ö (Kd.R_below HA.out hb);have HT:=ö ho;clear KB BK4 HA HO ho hb hcz_0 hcz_1 hcz_2 hcz_3 hcz_4 hfz_0 hfz_1 hfz_2 hfz_3 hfz_4;have KB:=n0_;have BK4:=n1_;have HA:=n2_;clear n0_ n1_ n2_;obtain ⟨Ab,cb,eb⟩:=Kd.R_slice HT.out;subst eb;have BK3:=ö KB.out.b3;obtain ⟨hcz_0,hcz_1,hcz_2,hcz_3,hcz_4,hfz_0,hfz_1,hfz_2,hfz_3,hfz_4⟩:=bz5_ BK4;obtain ⟨hcy_0,hcy_1,hcy_2,hcy_3,hcy_4,hfy_0,hfy_1,hfy_2,hfy_3,hfy_4⟩:=bz5_ BK3;have hn34:=HG4.out.2.2.1;have hn43:=hn34.symm) | ((with_reducible refine gate_dst (N:=65) rfl ?_);refine plain_ ?hg (fun K hK=>?_);(case hg=>rfl);refine Kd.R_append_step (kP wf) (w0:=w) w.heap.size (by rfl) (.tmp 62) (.tmp 64) 30 51 (.agg #[(.slice none 0 0),(.slice none 0 0),(.int .i64 0),(.int .i64 0),(.int .i64 0)]) 72 rfl Try.underlying30 info51 rfl (show 0 < 5 by decide) (by omega) (.slice Au ps.length cu) ps x [.slice Aa x.f0.length ca,.slice Ab x.f1.length cb,.int .i64 x.f2,.int .i64 x.f3,.int .i64 x.f4] (fun k=>k ≠ g4) (fun k=>k ≠ g4 ∧ some k ≠ (.slice Au ps.length cu : Value).ownBlock) rfl ?aX ?aP (fun _ hk=>hk) (Kd.freshB (bp5_1_ BK4.out)) (KB.out.put HG4.out 1 _).r0 (KB.out.put HG4.out 1 _).bel (KB.out.put HG4.out 1 _).bel.size ?aL ?_;(case aX=>exact congrArg (fun n=>Value.slice (some ⟨n,0,none⟩) 1 1) (show w15.heap.size = _ by simp [World.setCell]));(case aP=>exact kP_mkM wf _ _ _ x (Kd.R_mono (Kd.R_apart' (Kd.R_types (Kd.R_set HA.out BK4.out (by decide) 1 _) (bp5_1_ BK4.out) (by decide)) (Kd.R_typed (KB.out.put HG4.out 1 _).r0) (by decide)) (fun _ hk=>⟨hk.1.2,hk.2⟩)) (Or.inl ⟨_,rfl,Kd.R_mono (Kd.R_apart' (Kd.R_types (Kd.R_set HT.out BK4.out (show ∀ q,q ∈ [69] → q ≠ 51 by decide) 1 _) (bp5_1_ BK4.out) (show ∀ q,q ∈ [69] → q ≠ 51 by decide)) (Kd.R_typed (KB.out.put HG4.out 1 _).r0) (show ∀ q,q ∈ [69] → q ≠ 51 by decide)) (fun _ hk=>⟨hk.1.2,hk.2⟩)⟩));(case aL=>have:=HL.out.l0;have:=HLT.out;have:=HY.out.2;omega);intro v1 w16 ho hb hg hat;obtain ⟨Az,cz,ez⟩:=Kd.R_slice ho;subst ez;refine hK _ _ ?_;clear hK K;have n0_:=(KB.out.put HG4.out 1 _).over0 hg ho hb;have KE:=ö n0_.2;have BK3_:=ö n0_.1;clear KB BK4 BK3 HA HT ho hb hg hat n0_ hcz_0 hcz_1 hcz_2 hcz_3 hcz_4 hfz_0 hfz_1 hfz_2 hfz_3 hfz_4 hcy_0 hcy_1 hcy_2 hcy_3 hcy_4 hfy_0 hfy_1 hfy_2 hfy_3 hfy_4 hn34 hn43;obtain ⟨hcz_0,hcz_1,hcz_2,hcz_3,hcz_4,hfz_0,hfz_1,hfz_2,hfz_3,hfz_4⟩:=bz5_ BK3_))
            go_roundg (x0.length - (kk + 1))
            case measure=>omega
            case rel =>
              have el : (ps ++ [x]).length = ps.length + 1:=by simp
              refine ⟨kk + 1,.slice Az (ps.length + 1) cz,ps ++ [x],Nat.succ_le_of_lt HLT.out,Nat.le_refl _,(by rw [wrap_succ (by have:=HL.out.l0;have:=HLT.out;omega)]),⟨HGR.out.symm,by rw [el,HY.out.2]⟩,⟨?_⟩⟩
              have z:=KE.out
              rw [el] at z
              exact z
          · have hltz : decide ((kk : Int) < (x0.length : Int)) = false:=decide_eq_false (by omega)
            have HE:=ö (show ps = x0 by rw [HY.out.1,show kk = x0.length by omega,List.take_length])
            have BZ1:=ö KB.out.b1
            have BZ2:=ö KB.out.b2
            have BZ3:=ö KB.out.b3
            obtain ⟨hcz_0,hcz_1,hcz_2,hcz_3,hcz_4,hfz_0,hfz_1,hfz_2,hfz_3,hfz_4⟩:=bz5_ BZ1
            obtain ⟨hcy_0,hcy_1,hcy_2,hcy_3,hcy_4,hfy_0,hfy_1,hfy_2,hfy_3,hfy_4⟩:=bz5_ BZ2
            obtain ⟨hcx_0,hcx_1,hcx_2,hcx_3,hcx_4,hfx_0,hfx_1,hfx_2,hfx_3,hfx_4⟩:=bz5_ BZ3
            have hnb:=KB.out.n3;have hnc:=hnb.symm
            go_wp2
            refine bodyPost_ret (results_cell_row rfl _ _ g2 33 #[.slice Au ps.length cu,.slice B1 x1.length d1,.slice B2 x2.length d2,.slice Av ys.length cv,.slice B4 x4.length d4] (0,0) _ rfl (by apply bp5_4_;apply bp5_3_;apply bp5_2_;apply bp5_1_;apply bp5_0_;exact BZ2.out) Try.underlying33 rfl (by kernel_rfl)) rfl ?_
            have HYE:=HE.out
            subst HYE
            have GE:=KB.out.e2
            exact ⟨_,_,_,_,_,rfl,⟨set5_ _ _ _ _ _ KB.out.r0 BZ2.out (kP_29 wf),set5_ _ _ _ _ _ KB.out.r1 BZ2.out (by decide),set5_ _ _ _ _ _ KB.out.r2 BZ2.out (by decide),set5_ _ _ _ _ _ KB.out.r3 BZ2.out (by decide),set5_ _ _ _ _ _ KB.out.r4 BZ2.out (by decide)⟩,below_set (j:=4) (below_set (j:=3) (below_set (j:=2) (below_set (j:=1) (below_set (j:=0) KB.out.bel GE) GE) GE) GE) GE⟩
end Go.Proofs.Ytfbocgagfodgnaa.P

namespace Go.Proofs.Ytfbocgagfodgnaa.P
open Go.Proofs.YtfbocgagfodgnaaW.PrintWords renaming Aside0.mk → ö
open List renaming setIfInBounds_toArray → ä
open Go.RowKit Go.Proofs.YtfbocgagfodgnaaW.PrintWords Go.Proofs.YtfbocgagfodgnaaW.PrintLast Go.Proofs.YtfbocgagfodgnaaW.PrintMore
attribute [local go_sem] max2_int min2_int max_two min_two max_three min_three max_four min_four
set_option linter.unusedVariables false
set_option linter.unusedSimpArgs false
def l3out_T7 : Bool × List (List Nat × List Nat):=(true,[([],[]),([0],[0]),([],[]),([],[]),([3],[3]),([],[]),([4,5],[4,5]),([6],[6]),([7],[7]),([8],[8]),([1,2,0,1,2,3,4,5,6,7,8,9],[1,2]),([10,0,1,2,3,4,5,6,7,8,9],[10]),([11,9,9,0,1,2,3,4,5,6,7,8,9],[9,11])])
def l3out_B7 : List Nat:=[0,1,0,0,8,0,56,120,248,504,1023,2047,4095]
theorem l3out_tab7 : rtab .any (opsOf Try.f25 7) = l3out_T7:=by kernel_rfl
theorem l3out_bits7 : waitsOk l3out_T7.2 l3out_B7 = true:=by kernel_rfl
section
variable {wf w W W' : World} {g1 g2 g3 : Nat} {a0 a1 a2 a3 a4 u0 u1 u2 u3 u4 : Value} {ps : List S51} {x1 x2 : List Int} {ss : List (List Int)} {x4 : List S38}
theorem kP_openM {base : Nat} {ok : Nat → Prop} {x : S51} {cs : List Value} (h : (kP wf).M W base ok x cs) : ∃ v0 v1,cs = [v0,v1,.int .i64 x.f2,.int .i64 x.f3,.int .i64 x.f4] ∧ (Kd.int .i64).R 3 W base ok v0 x.f0:=by
  obtain ⟨_,_,rfl,⟨v0,rfl,g0⟩,⟨_,_,rfl,h1,⟨_,_,rfl,rfl,⟨_,_,rfl,rfl,rfl⟩⟩⟩⟩:=h
  rcases h1 with ⟨v1,rfl,_⟩ | ⟨v1,rfl,_⟩
  · exact ⟨v0,v1,rfl,g0⟩
  · exact ⟨v0,v1,rfl,g0⟩
theorem K3.at_ {g cap : Nat} (h : K3 wf w g1 g2 g3 a0 a1 a2 a3 a4 (.slice (some ⟨g,0,none⟩) ps.length cap) u1 u2 u3 u4 (fun _=>True) ps x1 x2 ss x4 W) (hb : Below wf.heap.size wf W) (i : Nat) (hi : i < ps.length) :
    ∃ At ct,W.cell? ⟨g,i * 5 + 1,none⟩ = some (.slice At ps[i].f1.length ct) ∧ W.frozen? ⟨g,i * 5 + 1,none⟩ = false ∧ ps[i].f1.length ≤ ct ∧ k69.C W At ps[i].f1.length ps[i].f1:=by
  obtain ⟨c,hcl,hM,hcc,hfz⟩:=Kd.R_elem h.r0 z51 (i : Int) (by omega) (by omega)
  have e : ps.getD (i : Int).toNat z51 = ps[i]:=by simp [List.getD_eq_getElem?_getD,List.getElem?_eq_getElem hi]
  rw [e] at hM
  obtain ⟨A0,c0,A1,c1,rfl,_,_,hl,hr⟩:=k51_open (kP_K hb ((kP wf).K_of_M hM))
  exact ⟨A1,c1,hcc 1 _ rfl,hfz 1,hl,hr⟩
theorem K3.todo {g cap : Nat} (h : K3 wf w g1 g2 g3 a0 a1 a2 a3 a4 (.slice (some ⟨g,0,none⟩) ps.length cap) u1 u2 u3 u4 (fun _=>True) ps x1 x2 ss x4 W) (i : Nat) (hi : i < ps.length) (v : Value) (hv : k69.R 69 W w.heap.size (fun k=>k ≠ g) v (ps[i].f1)) :
    K3 wf w g1 g2 g3 a0 a1 a2 a3 a4 (.slice (some ⟨g,0,none⟩) ps.length cap) u1 u2 u3 u4 (fun _=>True) ps x1 x2 ss x4 (W.setCell ⟨g,i * 5 + 1,none⟩ v):=by
  obtain ⟨c,hcl,hM,hcc,hfz⟩:=Kd.R_elem h.r0 z51 (i : Int) (by omega) (by omega)
  have e : ps.getD (i : Int).toNat z51 = ps[i]:=by simp [List.getD_eq_getElem?_getD,List.getElem?_eq_getElem hi]
  rw [e] at hM
  obtain ⟨v0,v1,rfl,hr0⟩:=kP_openM hM
  obtain ⟨hr,hg⟩:=Kd.R_seg h.r0 (i : Int) (by omega) (by omega) (seg:=[v]) (j:=1) hcl hcc (show 1 + 1 ≤ 5 by decide) (x':=ps[i]) (okp:=fun k=>k ≠ g) (kP_mkM wf W _ _ ps[i] (Kd.R_mono hr0 (fun _ hk=>hk.2)) (Or.inr ⟨v,rfl,hv⟩)) (fun k hk=>⟨trivial,hk⟩)
  have es : ps.set (i : Int).toNat ps[i] = ps:=by simp
  rw [es] at hr
  have hr' : (kP wf).R 51 (W.setCell ⟨g,i * 5 + 1,none⟩ v) w.heap.size (fun _=>True) (.slice (some ⟨g,0,none⟩) ps.length cap) ps:=hr
  have hg' : W.grownBy (W.setCell ⟨g,i * 5 + 1,none⟩ v) (Value.slice (some ⟨g,0,none⟩) ps.length cap).ownBlock:=hg
  have hge : w.heap.size ≤ g:=Kd.R_base h.r0 g rfl
  have ty:=Kd.R_typed h.r0
  exact ⟨blk_grown h.b1 hg' (Kd.R_ne h.r0 h.b1 (by decide)),blk_grown h.b2 hg' (Kd.R_ne h.r0 h.b2 (by decide)),blk_grown h.b3 hg' (Kd.R_ne h.r0 h.b3 (by decide)),hr',Kd.R_over' h.r1 ty (by decide) hg',Kd.R_over' h.r2 ty (by decide) hg',Kd.R_over' h.r3 ty (by decide) hg',Kd.R_over' h.r4 ty (by decide) hg',h.n1,h.n2,h.n3,h.e2,h.e3,below_set h.bel hge⟩
def Ups (W : World) (n g : Nat) (x0 : List S51) (kk : Nat) : Prop:=∀ i (hx : i < x0.length),i < kk → ∃ vt,W.cell? ⟨g,i * 5 + 1,none⟩ = some vt ∧ k69.R 69 W n (fun k=>k ≠ g) vt x0[i].f1
theorem Ups.below {n g kk : Nat} {x0 : List S51} (h : Ups W n g x0 kk) (hb : Below W.heap.size W W') : Ups W' n g x0 kk:=fun i hx hi=>by
  obtain ⟨vt,hc,hr⟩:=h i hx hi
  exact ⟨vt,(hb.cell (World.block_lt_of_cell? _ _ hc)).trans hc,Kd.R_below hr hb⟩
theorem Ups.step {n g kk : Nat} {x0 : List S51} {cells : Array Value} (h : Ups W n g x0 kk) (hg : W.heap[g]? = some (.cells cells 51 (0,0))) (hk : kk < x0.length) {z : Value} (hz : W.cell? ⟨g,kk * 5 + 1,none⟩ = some z) {v : Value} (hv : k69.R 69 W n (fun k=>k ≠ g) v (x0[kk]).f1) : Ups (W.setCell ⟨g,kk * 5 + 1,none⟩ v) n g x0 (kk + 1):=fun i hx hi=>by
  have hs : (W.setCell ⟨g,kk * 5 + 1,none⟩ v).heap[g]? = some (.cells (cells.setIfInBounds (kk * 5 + 1) v) 51 (0,0)):=blk_set hg _ _
  by_cases e : i = kk
  · subst e
    refine ⟨v,?_,Kd.R_far (p:=⟨g,i * 5 + 1,none⟩) hv (fun _ hk=>hk) v⟩
    have hc : cells[i * 5 + 1]? = some z:=(blk_cell hg _).symm.trans hz
    rw [blk_cell hs,Array.getElem?_setIfInBounds]
    simp [(Array.getElem?_eq_some_iff.1 hc).1]
  · obtain ⟨vt,hc,hr⟩:=h i hx (by omega)
    refine ⟨vt,?_,Kd.R_far (p:=⟨g,kk * 5 + 1,none⟩) hr (fun _ hk=>hk) v⟩
    rw [blk_cell hs,Array.getElem?_setIfInBounds_ne (by omega)]
    exact (blk_cell hg _).symm.trans hc
theorem Ups.row {n g cap : Nat} {x0 : List S51} (h : Ups W n g x0 x0.length) (hr : (kP wf).R 51 W n (fun _=>True) (.slice (some ⟨g,0,none⟩) x0.length cap) x0) : k51.R 51 W n (fun _=>True) (.slice (some ⟨g,0,none⟩) x0.length cap) x0:=by
  have key:=fun (i : Nat) (hi : i < x0.length)=>Kd.R_elem hr z51 (i : Int) (by omega) (by omega)
  obtain ⟨h0,inner,ho,hreps⟩:=hr
  refine ⟨h0,inner,ho,hreps.1,fun j p hj=>?_⟩
  obtain ⟨hjl,hjp⟩:=List.getElem?_eq_some_iff.1 hj
  have hm:=hreps.2 j p hj
  obtain ⟨v0,v1,e,g0⟩:=kP_openM hm
  obtain ⟨vt,hc,hv⟩:=h j hjl hjl
  have hlen : inner.length = x0.length * 5:=hreps.1
  have e1 : inner[j * 5 + 1]? = some v1:=by
    have e2 : ((inner.drop (j * 5)).take 5)[1]? = some v1:=by
      have e3 : (inner.drop (j * 5)).take 5 = _:=e
      rw [e3]
      rfl
    rw [List.getElem?_take,if_pos (by omega),List.getElem?_drop] at e2
    exact e2
  have e4 : W.cell? ⟨g,j * 5 + 1,none⟩ = some v1:=by
    rcases ho.2 with ⟨hn,_⟩ | ⟨g',cap',cur,ev,_,hb,_,_,hcs,hat⟩
    · cases hn
    · injection ev with ea _ _
      injection ea with ea
      injection ea with eg
      subst eg
      have hat' : cur.toList.take (x0.length * 5) = inner:=hat
      rw [blk_cell hb,← e1,← hat',List.getElem?_take,if_pos (show j * 5 + 1 < x0.length * 5 by omega)]
      exact (Array.getElem?_toList ..).symm
  rw [hc] at e4
  injection e4 with e5
  subst e5
  subst hjp
  have e6 : (inner.drop (j * k51.sz)).take k51.sz = [v0,vt,.int .i64 (x0[j]).f2,.int .i64 (x0[j]).f3,.int .i64 (x0[j]).f4]:=e
  rw [e6]
  exact k51_mkM W n _ (x0[j]) g0 (Kd.R_mono hv fun k hk=>⟨trivial,fun z=>hk (by have z' : some k = some g:=z;injection z')⟩)
end
set_option maxHeartbeats 8000000 in
set_option maxRecDepth 100000 in
theorem l3out_says (k : Nat) (A0 : Option Addr) (c0 : Nat) (x0 : List S51) (A1 : Option Addr) (c1 : Nat) (x1 : List Int) (A2 : Option Addr) (c2 : Nat) (x2 : List Int) (A3 : Option Addr) (c3 : Nat) (x3 : List (List Int)) (A4 : Option Addr) (c4 : Nat) (x4 : List S38) (wf w : World) (hwf : Below wf.heap.size wf w) (hz : 0 < x0.length) (h0 : Kd.C (kPf wf) w A0 x0.length x0) (h1 : Kd.C (Kd.int .i64) w A1 x1.length x1) (h2 : Kd.C (Kd.int .i64) w A2 x2.length x2) (h3 : Kd.C (Kd.slice 3 (Kd.int .i64)) w A3 x3.length x3) (h4 : Kd.C k38 w A4 x4.length x4) (hl : Len3 x0 x1 x2 x3 x4) (hf : ∀ x ∈ x0,spec_l2Copy.f k x.f1 4 = some x.f1) :
    Calls Try.prog 25 #[.agg #[.slice A0 x0.length c0,.slice A1 x1.length c1,.slice A2 x2.length c2,.slice A3 x3.length c3,.slice A4 x4.length c4]] w fun e w'=>∃ v0 v1 v2 v3 v4 : Value,e = .returned (.agg #[v0,v1,v2,v3,v4]) ∧ RO k51 w.heap.size w' x0 x1 x2 x3 x4 v0 v1 v2 v3 v4 ∧ Below w.heap.size w w':=by
  have hu29:=Try.underlying33
  have hu59:=Try.underlying51
  have HR0:=ö h0
  have HR1:=ö h1
  have HR2:=ö h2
  have HR3:=ö h3
  have HR4:=ö h4
  have HL:=ö hl
  have HF:=ö hf
  have HWF:=ö hwf
  clear h0 h1 h2 h3 h4 hl hf hwf
  have HB:=ö (Below.refl w.heap.size w)
  have HZP:=ö hz
  clear hz
  by_cases hz : x0.length = 0
  · exact absurd hz (Nat.ne_of_gt HZP.out)
  · have hzz : decide ((x0.length : Int) = 0) = false:=decide_eq_false (by omega)
    have HZ:=ö hz
    go_enter Try.func25,Try.ntmps25
    try go_wp2_with (first | ((with_reducible refine gate_dst (N:=1) rfl ?_);refine box_event ?hg (N:=1) ?hd (cs:=#[.slice A0 x0.length c0,.slice A1 x1.length c1,.slice A2 x2.length c2,.slice A3 x3.length c3,.slice A4 x4.length c4]) (t:=33) ?hr ?_;(case hd=>rfl);(case hg=>rfl);(case hr=>first | (go_simp;done) | (go_simp;rfl));intro g1 hg w5 hbox hb;have n0_:=ö (below_step (q0_ HB) hb);have n1_:=ö (hbox);have GE1:=ö ((by rw [hg];exact (below_size (q0_ HB)) : w.heap.size ≤ g1));clear HB;have HB:=n0_;have BK1:=n1_;clear n0_ n1_;clear hb hbox hg) | ((with_reducible refine gate_dst (N:=2) rfl ?_);refine box_event ?hg (N:=2) ?hd (cs:=#[.slice none 0 0,.slice none 0 0,.slice none 0 0,.slice none 0 0,.slice none 0 0]) (t:=33) ?hr ?_;(case hd=>rfl);(case hg=>rfl);(case hr=>first | (go_simp;done) | (go_simp;rfl));intro g2 hg w6 hbox hb;have n0_:=ö (blk_below BK1.out hb);have n1_:=ö (below_step HB.out hb);have n2_:=ö (hbox);have GE2:=ö ((by rw [hg];exact below_size HB.out) : w.heap.size ≤ g2);have N12:=ö ((by rw [hg];exact Nat.ne_of_lt (blk_lt BK1.out)) : g1 ≠ g2);clear BK1 HB;have BK1:=n0_;have HB:=n1_;have BK2:=n2_;clear n0_ n1_ n2_;clear hb hbox hg;obtain ⟨hcz_0,hcz_1,hcz_2,hcz_3,hcz_4,hfz_0,hfz_1,hfz_2,hfz_3,hfz_4⟩:=bz5_ BK1;obtain ⟨hcy_0,hcy_1,hcy_2,hcy_3,hcy_4,hfy_0,hfy_1,hfy_2,hfy_3,hfy_4⟩:=bz5_ BK2;have hn12:=N12.out;have hn21:=hn12.symm) | (go_at_call 41;(with_reducible refine (l3copy_says A0 c0 x0 A1 c1 x1 A2 c2 x2 A3 c3 x3 A4 c4 x4 wf w6 (Kd.C_below HR0.out HB.out) (Kd.C_below HR1.out HB.out) (Kd.C_below HR2.out HB.out) (Kd.C_below HR3.out HB.out) (Kd.C_below HR4.out HB.out) HL.out).mono ?_);rintro e w7 ⟨v0,v1,v2,v3,v4,rfl,hrc,hb⟩;have n0_:=ö (blk_below BK1.out hb);have n1_:=ö (below_step HB.out hb);have n2_:=ö (blk_below BK2.out hb);have HC:=ö hrc;have HS:=ö HB.out.size;clear BK1 BK2 HB hb hrc hcz_0 hcz_1 hcz_2 hcz_3 hcz_4 hfz_0 hfz_1 hfz_2 hfz_3 hfz_4 hcy_0 hcy_1 hcy_2 hcy_3 hcy_4 hfy_0 hfy_1 hfy_2 hfy_3 hfy_4;have BK1:=n0_;have HB:=n1_;have BK2:=n2_;clear n0_ n1_ n2_;obtain ⟨B0,d0,e0⟩:=Kd.R_slice HC.out.r0;obtain ⟨B1,d1,e1⟩:=Kd.R_slice HC.out.r1;obtain ⟨B2,d2,e2⟩:=Kd.R_slice HC.out.r2;obtain ⟨B3,d3,e3⟩:=Kd.R_slice HC.out.r3;obtain ⟨B4,d4,e4⟩:=Kd.R_slice HC.out.r4;subst e0;subst e1;subst e2;subst e3;subst e4) | ((with_reducible refine gate_dst (N:=3) rfl ?_);refine box_event ?hg (N:=3) ?hd (cs:=#[.slice none 0 0,.slice none 0 0,.slice none 0 0,.slice none 0 0,.slice none 0 0]) (t:=33) ?hr ?_;(case hd=>rfl);(case hg=>rfl);(case hr=>first | (go_simp;done) | (go_simp;rfl));intro g3 hg w8 hbox hb;have n0_:=ö (blk_below BK1.out hb);have n1_:=ö (below_step HB.out hb);have n2_:=ö (blk_below BK2.out hb);have N13:=ö ((by rw [hg];exact Nat.ne_of_lt (blk_lt BK1.out)) : g1 ≠ g3);have N23:=ö ((by rw [hg];exact Nat.ne_of_lt (blk_lt BK2.out)) : g2 ≠ g3);have GE3:=ö ((by rw [hg];exact below_size HB.out) : w.heap.size ≤ g3);have n3_:=ö (Kd.R_below HC.out.r0 hb);have n4_:=ö (Kd.R_below HC.out.r1 hb);have n5_:=ö (Kd.R_below HC.out.r2 hb);have n6_:=ö (Kd.R_below HC.out.r3 hb);have n7_:=ö (Kd.R_below HC.out.r4 hb);have BK3:=ö hbox;clear BK1 BK2 HB HC hb hbox hg;have BK1:=n0_;have HB:=n1_;have BK2:=n2_;clear n0_ n1_ n2_;obtain ⟨hcz_0,hcz_1,hcz_2,hcz_3,hcz_4,hfz_0,hfz_1,hfz_2,hfz_3,hfz_4⟩:=bz5_ BK3))
    obtain ⟨g,cap,eg,_,_,_⟩:=Kd.R_form n3_.out (by have:=HZ.out;omega)
    injection eg with eg1 _ eg2
    subst eg1
    subst eg2
    have kb : K3 wf w g1 g2 g3 (.slice A0 x0.length c0) (.slice A1 x1.length c1) (.slice A2 x2.length c2) (.slice A3 x3.length c3) (.slice A4 x4.length c4) (.slice (some ⟨g,0,none⟩) x0.length d0) (.slice B1 x1.length d1) (.slice B2 x2.length d2) (.slice B3 x3.length d3) (.slice B4 x4.length d4) (fun _=>True) x0 x1 x2 x3 x4 (((((w8.setCell ⟨g3,0,none⟩ (.slice (some ⟨g,0,none⟩) x0.length d0)).setCell ⟨g3,1,none⟩ (.slice B1 x1.length d1)).setCell ⟨g3,2,none⟩ (.slice B2 x2.length d2)).setCell ⟨g3,3,none⟩ (.slice B3 x3.length d3)).setCell ⟨g3,4,none⟩ (.slice B4 x4.length d4)) :=
      ⟨blk_far (p:=⟨g3,4,none⟩) (blk_far (p:=⟨g3,3,none⟩) (blk_far (p:=⟨g3,2,none⟩) (blk_far (p:=⟨g3,1,none⟩) (blk_far (p:=⟨g3,0,none⟩) BK1.out N13.out _) N13.out _) N13.out _) N13.out _) N13.out _,
       blk_far (p:=⟨g3,4,none⟩) (blk_far (p:=⟨g3,3,none⟩) (blk_far (p:=⟨g3,2,none⟩) (blk_far (p:=⟨g3,1,none⟩) (blk_far (p:=⟨g3,0,none⟩) BK2.out N23.out _) N23.out _) N23.out _) N23.out _) N23.out _,
       by apply bp5_4_;apply bp5_3_;apply bp5_2_;apply bp5_1_;apply bp5_0_;exact BK3.out,
       set5_ _ _ _ _ _ (Kd.R_lower n3_.out HS.out) BK3.out (kP_29 wf),set5_ _ _ _ _ _ (Kd.R_lower n4_.out HS.out) BK3.out (by decide),set5_ _ _ _ _ _ (Kd.R_lower n5_.out HS.out) BK3.out (by decide),set5_ _ _ _ _ _ (Kd.R_lower n6_.out HS.out) BK3.out (by decide),set5_ _ _ _ _ _ (Kd.R_lower n7_.out HS.out) BK3.out (by decide),N12.out,N13.out,N23.out,GE2.out,GE3.out,
       below_set (j:=4) (below_set (j:=3) (below_set (j:=2) (below_set (j:=1) (below_set (j:=0) HB.out GE3.out) GE3.out) GE3.out) GE3.out) GE3.out⟩
    have KB:=ö kb
    clear kb BK1 BK2 BK3 HB HS n3_ n4_ n5_ n6_ n7_ hcz_0 hcz_1 hcz_2 hcz_3 hcz_4 hfz_0 hfz_1 hfz_2 hfz_3 hfz_4
    generalize (((((w8.setCell ⟨g3,0,none⟩ (.slice (some ⟨g,0,none⟩) x0.length d0)).setCell ⟨g3,1,none⟩ (.slice B1 x1.length d1)).setCell ⟨g3,2,none⟩ (.slice B2 x2.length d2)).setCell ⟨g3,3,none⟩ (.slice B3 x3.length d3)).setCell ⟨g3,4,none⟩ (.slice B4 x4.length d4)) = w9 at KB ⊢
    go_loopg [4] x0.length (fun gg v4 wr=>∃ (kk : Nat),kk ≤ x0.length ∧ x0.length - kk ≤ gg ∧ v4 = .int .i64 kk ∧ Aside0 (K3 wf w g1 g2 g3 (.slice A0 x0.length c0) (.slice A1 x1.length c1) (.slice A2 x2.length c2) (.slice A3 x3.length c3) (.slice A4 x4.length c4) (.slice (some ⟨g,0,none⟩) x0.length d0) (.slice B1 x1.length d1) (.slice B2 x2.length d2) (.slice B3 x3.length d3) (.slice B4 x4.length d4) (fun _=>True) x0 x1 x2 x3 x4 wr) ∧ Aside0 (Ups wr w.heap.size g x0 kk))
    case atStart=>exact ⟨0,Nat.zero_le _,by omega,rfl,KB,⟨fun i _ hi=>absurd hi (Nat.not_lt_zero i)⟩⟩
    case round =>
      clear KB
      obtain ⟨kk,hkk,hgk,rfl,KB,UP⟩:=hrel
      have BZ3:=ö KB.out.b3
      obtain ⟨hcz_0,hcz_1,hcz_2,hcz_3,hcz_4,hfz_0,hfz_1,hfz_2,hfz_3,hfz_4⟩:=bz5_ BZ3
      by_cases hlt : kk < x0.length
      · have hltz : decide ((kk : Int) < (x0.length : Int)) = true:=decide_eq_true (by omega)
        have HLT:=ö hlt
        have p1 : 0 ≤ (kk : Int):=by omega
        have q1 : (kk : Int) < (x0.length : Int):=by omega
        obtain ⟨At,ct,hx,hfz,hlt_,hit⟩:=KB.out.at_ (below_step HWF.out KB.out.bel) kk hlt
        have HFX:=ö (HF.out x0[kk] (List.getElem_mem hlt))
        have HLM:=ö hlt_
        have HIT:=ö hit
        have HX:=ö (Eq.refl x0[kk])
        have key:=fun (W : World) (h : K3 wf w g1 g2 g3 (.slice A0 x0.length c0) (.slice A1 x1.length c1) (.slice A2 x2.length c2) (.slice A3 x3.length c3) (.slice A4 x4.length c4) (.slice (some ⟨g,0,none⟩) x0.length d0) (.slice B1 x1.length d1) (.slice B2 x2.length d2) (.slice B3 x3.length d3) (.slice B4 x4.length d4) (fun _=>True) x0 x1 x2 x3 x4 W) (v : Value) (hv : k69.R 69 W w.heap.size (fun k=>k ≠ g) v (x0[kk].f1))=>h.todo kk hlt v hv
        have KEY:=ö key
        clear key
        have key2:=fun (W : World) (h : Ups W w.heap.size g x0 kk) (cells : Array Value) (hg : W.heap[g]? = some (.cells cells 51 (0,0))) (z : Value) (hz : W.cell? ⟨g,kk * 5 + 1,none⟩ = some z) (v : Value) (hv : k69.R 69 W w.heap.size (fun k=>k ≠ g) v (x0[kk].f1))=>h.step hg hlt hz hv
        have KEY2:=ö key2
        clear key2
        generalize x0[kk] = x at hx hlt_ hit HFX HLM HIT HX KEY KEY2
        clear hlt_ hit HX
        replace p1:=eq_true p1
        replace q1:=eq_true q1
        try go_wp2
        have KC:=ö (KB.out.below (below_drew1 (Below.refl _ _)))
        have HIT1:=ö (Kd.C_below HIT.out (below_drew1 (Below.refl wr.heap.size wr)))
        have UP1:=ö (UP.out.below (below_drew1 (Below.refl _ _)))
        clear KB UP BZ3 hcz_0 hcz_1 hcz_2 hcz_3 hcz_4 hfz_0 hfz_1 hfz_2 hfz_3 hfz_4 HIT
        refine start_ (n:=13) (S:=fun w'=>w'.cell? ⟨g3,0,none⟩ = some (.slice (some ⟨g,0,none⟩) x0.length d0) ∧ w'.cell? ⟨g,kk * 5 + 1,none⟩ = some (.slice At x.f1.length ct)) (ds:=[12]) #[false,false,false,false,false,false,false,false,false,false,false,false,false] (by kernel_rfl) rfl rfl ⟨(blk_cell KC.out.b3 0).trans rfl,hx⟩ (fun hHeld=>?_)
        refine with_tabW l3out_tab7 l3out_bits7 (fun HT_ HW_=>?_)
        clear hx hfz
        generalize wr.drew = w10 at KC HIT1 UP1 hHeld ⊢
        refine pure_ (i:=0) (N:=some 19) (v:=?_) (a':=?_) #[true,false,false,false,false,false,false,false,false,false,false,false,false] rfl rfl (any_of HT_.out (by kernel_rfl)) (fun _ _ _ h=>h) (Or.inl ⟨by rfl,?_⟩) ?_ ?_
        rotate_left
        · intro w'
          go_simp
          with_reducible rfl
        rotate_left
        · (try simp only [Act.put,ä,List.set_cons_zero,List.set_cons_succ,i64_w,i32_w])
          rfl
        refine pure_ (i:=2) (N:=some 21) (v:=?_) (a':=?_) #[true,false,true,false,false,false,false,false,false,false,false,false,false] rfl rfl (any_of HT_.out (by kernel_rfl)) (fun _ _ _ h=>h) (Or.inl ⟨by rfl,?_⟩) ?_ ?_
        rotate_left
        · intro w'
          go_simp
          with_reducible rfl
        rotate_left
        · (try simp only [Act.put,ä,List.set_cons_zero,List.set_cons_succ,i64_w,i32_w])
          rfl
        refine pure_ (i:=3) (N:=some 22) (v:=?_) (a':=?_) #[true,false,true,true,false,false,false,false,false,false,false,false,false] rfl rfl (any_of HT_.out (by kernel_rfl)) (fun _ _ _ h=>h) (Or.inl ⟨by rfl,?_⟩) ?_ ?_
        rotate_left
        · intro w'
          go_simp
          with_reducible rfl
        rotate_left
        · (try simp only [Act.put,ä,List.set_cons_zero,List.set_cons_succ,i64_w,i32_w])
          rfl
        refine pure_ (i:=5) (N:=some 24) (v:=?_) (a':=?_) #[true,false,true,true,false,true,false,false,false,false,false,false,false] rfl rfl (any_of HT_.out (by kernel_rfl)) (fun _ _ _ h=>h) (Or.inl ⟨by rfl,?_⟩) ?_ ?_
        rotate_left
        · intro w'
          go_simp
          with_reducible rfl
        rotate_left
        · (try simp only [Act.put,ä,List.set_cons_zero,List.set_cons_succ,i64_w,i32_w])
          rfl
        refine take_ (i:=1) (N:=some 20) (v:=?_) (a':=?_) #[true,true,true,true,false,true,false,false,false,false,false,false,false] rfl rfl (take_ofW HT_.out HW_.out (by kernel_rfl)) (fun _ _ _ h=>h) (Or.inl ⟨by rfl,?_⟩) hHeld ?_ ?_
        rotate_left
        · rintro w' ⟨s0,s1⟩
          go_simp
          with_reducible rfl
        rotate_left
        · (try simp only [Act.put,ä,List.set_cons_zero,List.set_cons_succ,i64_w,i32_w])
          rfl
        refine take_ (i:=4) (N:=some 23) (v:=?_) (a':=?_) #[true,true,true,true,true,true,false,false,false,false,false,false,false] rfl rfl (take_ofW HT_.out HW_.out (by kernel_rfl)) (fun _ _ _ h=>h) (Or.inl ⟨by rfl,?_⟩) hHeld ?_ ?_
        rotate_left
        · rintro w' ⟨s0,s1⟩
          go_simp
          with_reducible rfl
        rotate_left
        · (try simp only [Act.put,ä,List.set_cons_zero,List.set_cons_succ,i64_w,i32_w])
          rfl
        refine pure_ (i:=6) (N:=some 25) (v:=?_) (a':=?_) #[true,true,true,true,true,true,true,false,false,false,false,false,false] rfl rfl (any_of HT_.out (by kernel_rfl)) (fun _ _ _ h=>h) (Or.inl ⟨by rfl,?_⟩) ?_ ?_
        rotate_left
        · intro w'
          go_simp
          with_reducible rfl
        rotate_left
        · (try simp only [Act.put,ä,List.set_cons_zero,List.set_cons_succ,i64_w,i32_w])
          rfl
        refine pure_ (i:=7) (N:=some 26) (v:=?_) (a':=?_) #[true,true,true,true,true,true,true,true,false,false,false,false,false] rfl rfl (any_of HT_.out (by kernel_rfl)) (fun _ _ _ h=>h) (Or.inl ⟨by rfl,?_⟩) ?_ ?_
        rotate_left
        · intro w'
          go_simp
          with_reducible rfl
        rotate_left
        · (try simp only [Act.put,ä,List.set_cons_zero,List.set_cons_succ,i64_w,i32_w])
          rfl
        refine take_ (i:=8) (N:=some 27) (v:=?_) (a':=?_) #[true,true,true,true,true,true,true,true,true,false,false,false,false] rfl rfl (take_ofW HT_.out HW_.out (by kernel_rfl)) (fun _ _ _ h=>h) (Or.inl ⟨by rfl,?_⟩) hHeld ?_ ?_
        rotate_left
        · rintro w' ⟨s0,s1⟩
          go_simp
          with_reducible rfl
        rotate_left
        · (try simp only [Act.put,ä,List.set_cons_zero,List.set_cons_succ,i64_w,i32_w])
          rfl
        refine one_ (i:=9) (N:=some 28) #[true,true,true,true,true,true,true,true,true,true,false,false,false] rfl rfl (one_of HT_.out (by kernel_rfl)) (by decide) (fun K hK=>?_)
        refine goes_ Try.func42 (by kernel_rfl) rfl #[.slice At x.f1.length ct,.int .i64 4] (by rfl) rfl rfl (by (try simp only [List.map_toArray,List.map_cons,List.map_nil]);first | done | rfl | (simp only [List.length_drop,List.length_take];rfl)) ?_
        with_reducible refine (spec_l2Copy.calls k _ _ x.f1 4 x.f1 _ HIT1.out HLM.out HFX.out).mono ?_
        rintro e wt ⟨vt,rfl,ht,hb⟩
        refine ⟨_,rfl,?_⟩
        have KD:=ö (KC.out.below hb)
        have UP2:=ö (UP1.out.below hb)
        have HV:=ö (show k69.R 69 wt w.heap.size (fun k=>k ≠ g) vt x.f1 from Kd.R_lower (Kd.R_mono (Kd.R_bound ht) (fun k hk=>by have h1:=hk.2.1;have h2:=Kd.R_lt KC.out.r0 g rfl;omega)) KC.out.bel.size)
        obtain ⟨Ab,cb,eb⟩:=Kd.R_slice ht
        subst eb
        have hx2:=(hb.cell (World.block_lt_of_cell? _ _ hHeld.2)).trans hHeld.2
        clear hHeld ht hb
        refine hK.out _ _ ⟨(blk_cell KD.out.b3 0).trans rfl,hx2⟩ (fun hHeld=>?_)
        clear hK K hx2
        refine norm_ (a':=?_) ?_ ?_
        rotate_left
        · show Act.put _ (some 28) _ = _
          simp only [Act.put,ä,List.set_cons_zero,List.set_cons_succ,i64_w,i32_w]
          rfl
        refine pure_ (i:=10) (N:=some 29) (v:=?_) (a':=?_) #[true,true,true,true,true,true,true,true,true,true,true,false,false] rfl rfl (any_of HT_.out (by kernel_rfl)) (fun _ _ _ h=>h) (Or.inl ⟨by rfl,?_⟩) ?_ ?_
        rotate_left
        · intro w'
          go_simp
          with_reducible rfl
        rotate_left
        · (try simp only [Act.put,ä,List.set_cons_zero,List.set_cons_succ,i64_w,i32_w])
          rfl
        refine pure_ (i:=11) (N:=some 30) (v:=?_) (a':=?_) #[true,true,true,true,true,true,true,true,true,true,true,true,false] rfl rfl (any_of HT_.out (by kernel_rfl)) (fun _ _ _ h=>h) (Or.inl ⟨by rfl,?_⟩) ?_ ?_
        rotate_left
        · intro w'
          go_simp
          with_reducible rfl
        rotate_left
        · (try simp only [Act.put,ä,List.set_cons_zero,List.set_cons_succ,i64_w,i32_w])
          rfl
        refine last_ (i:=12) (N:=none) #[true,true,true,true,true,true,true,true,true,true,true,true,true] rfl rfl (one_of HT_.out (by kernel_rfl)) (by decide) (fun K hK=>?_)
        obtain ⟨_,_,hs44,hfs44,_,_⟩:=KD.out.at_ (below_step HWF.out KD.out.bel) kk HLT.out
        refine skip_ (w1:=?_) (by rfl) rfl ?_ ?_
        rotate_left
        · go_simp
          rfl
        refine hK.out _ _ ?_
        clear hK K
        refine done_ (done_of HT_.out (by kernel_rfl)) ?_
        clear HT_ HW_
        try go_wp2
        go_roundg (x0.length - (kk + 1))
        case measure=>have:=HLT.out;omega
        case rel=>exact ⟨kk + 1,Nat.succ_le_of_lt HLT.out,Nat.le_refl _,(by rw [wrap_succ (by have:=HL.out.l0;have:=HLT.out;omega)]),⟨KEY.out _ KD.out _ HV.out⟩,⟨by
          obtain ⟨cells,hc⟩:=Kd.R_typed KD.out.r0 g rfl
          exact KEY2.out _ UP2.out cells hc _ hs44 _ HV.out⟩⟩
      · have hltz : decide ((kk : Int) < (x0.length : Int)) = false:=decide_eq_false (by omega)
        have BZ2:=ö KB.out.b2
        obtain ⟨hcy_0,hcy_1,hcy_2,hcy_3,hcy_4,hfy_0,hfy_1,hfy_2,hfy_3,hfy_4⟩:=bz5_ BZ2
        have hnb:=KB.out.n3;have hnc:=hnb.symm
        go_wp2
        refine bodyPost_ret (results_cell_row rfl _ _ g2 33 #[.slice (some ⟨g,0,none⟩) x0.length d0,.slice B1 x1.length d1,.slice B2 x2.length d2,.slice B3 x3.length d3,.slice B4 x4.length d4] (0,0) _ rfl (by apply bp5_4_;apply bp5_3_;apply bp5_2_;apply bp5_1_;apply bp5_0_;exact BZ2.out) Try.underlying33 rfl (by kernel_rfl)) rfl ?_
        have GE:=KB.out.e2
        have hb:=below_set (v:=.slice B4 x4.length d4) (j:=4) (below_set (v:=.slice B3 x3.length d3) (j:=3) (below_set (v:=.slice B2 x2.length d2) (j:=2) (below_set (v:=.slice B1 x1.length d1) (j:=1) (below_set (v:=.slice (some ⟨g,0,none⟩) x0.length d0) (j:=0) KB.out.bel GE) GE) GE) GE) GE
        have e:=show kk = x0.length by omega
        subst e
        exact ⟨_,_,_,_,_,rfl,⟨set5_ _ _ _ _ _ (UP.out.row KB.out.r0) BZ2.out (by decide),set5_ _ _ _ _ _ KB.out.r1 BZ2.out (by decide),set5_ _ _ _ _ _ KB.out.r2 BZ2.out (by decide),set5_ _ _ _ _ _ KB.out.r3 BZ2.out (by decide),set5_ _ _ _ _ _ KB.out.r4 BZ2.out (by decide)⟩,hb⟩
end Go.Proofs.Ytfbocgagfodgnaa.P
