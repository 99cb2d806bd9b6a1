/- impl.opened: what it makes is in blocks of its own, each part apart from the others; the text of its first steps is gen.py's, read again; no condition but a depth that ends and lists that are not over-long. -/
import Derived.Test.YtdjkmnkgaacmfaaZFnExactMeanOpen14
import Derived.Test.YtdjkmnkgaacmfaaZFnExactMeanOpen4
namespace Go.Proofs.Ytdjkmnkgaacmfaa.P
open Go.RowKit Go.Proofs.YtdjkmnkgaacmfaaW.PrintWords Go.Proofs.YtdjkmnkgaacmfaaW.PrintLast Go.Proofs.YtdjkmnkgaacmfaaW.PrintMore
attribute [local go_sem] max2_int min2_int max_two min_two max_three min_three max_four min_four
set_option linter.unusedVariables false
set_option linter.unusedSimpArgs false
def impl_opened.xT5 : Bool × List (List Nat × List Nat):=(true,[([],[]),([0],[0]),([],[]),([],[]),([3],[3]),([2,4],[2,4]),([5],[5]),([1,6,4],[1,6]),([0,1,2,3,4,5,6,7],[]),([8,7,7,0,1,2,3,4,5,6,7],[7,8])])
def impl_opened.xB5 : List Nat:=[0,1,0,0,8,28,60,127,255,511]
theorem impl_opened.xtab5 : rtab .any (opsOf Try.f18 5) = impl_opened.xT5:=by kernel_rfl
theorem impl_opened.xbits5 : waitsOk impl_opened.xT5.2 impl_opened.xB5 = true:=by kernel_rfl
theorem copy_at (d : Nat) (A : Option Addr) (c : Nat) (l : List S61) (w : World) (h1 : Kd.C k61 w A l.length l) (h2 : l.length ≤ c) (h3 : Fits d l) : Calls Try.prog 41 #[.slice A l.length c] w fun e w'=>∃ v : Value,e = .returned v ∧ Tr d w' (fun k=>w.heap.size ≤ k ∧ k < w'.heap.size) v l ∧ Below w.heap.size w w':=copy_says d A c l w h1 h2 h3
def prO (l : List S61) : S59:=⟨List.replicate 3 0,l,0,0,-1⟩
def OpenR (d n : Nat) (l : List (List S61)) (v0 v1 v2 v3 : Value) (w' : World) : Prop:=∃ P0 : Nat → Prop,RowP d w' P0 v0 (l.map prO) ∧ RowI w' (fun k=>some k = v1.ownBlock) v1 (List.replicate 3 0) ∧ RowI w' (fun k=>some k = v2.ownBlock) v2 (List.replicate 2 0) ∧ Kd.S (Kd.slice 3 (Kd.int .i64)) 25 w' n (fun k=>¬ P0 k ∧ some k ≠ v1.ownBlock ∧ some k ≠ v2.ownBlock) v3 (List.replicate 2 []) ∧ (∀ k,P0 k → n ≤ k ∧ k < w'.heap.size ∧ some k ≠ v1.ownBlock ∧ some k ≠ v2.ownBlock) ∧ (∀ k,some k = v1.ownBlock → n ≤ k ∧ some k ≠ v2.ownBlock) ∧ (∀ k,some k = v2.ownBlock → n ≤ k)
set_option maxHeartbeats 8000000 in
set_option maxRecDepth 100000 in
theorem open_says (d : Nat) (A0 : Option Addr) (c0 : Nat) (l0 : List (List S61)) (w : World) (hr0 : Kd.C (Kd.slice 61 k61) w A0 l0.length l0) (hc0 : l0.length ≤ c0) (hfit : ∀ x ∈ l0,Fits d x) (hmany : l0.length ≤ 1000000000) :
    Calls Try.prog 18 #[.slice A0 l0.length c0] w fun e w'=>∃ v0 v1 v2 v3 : Value,e = .returned (.agg #[v0,v1,v2,v3,.slice none 0 0]) ∧ OpenR d w.heap.size l0 v0 v1 v2 v3 w' ∧ Below w.heap.size w w':=by
  have hu29:=Try.underlying29;have hu59:=Try.underlying59;have HR0:=Aside0.mk hr0;have HC0:=Aside0.mk hc0;have HF0:=Aside0.mk hfit;have HMY:=Aside0.mk hmany;clear hr0 hc0 hfit hmany;have HB:=Aside0.mk (Below.refl w.heap.size w)
  have c2 : 3 ≤ 35184372088832:=by decide
  have c2b0:=eq_true c2;have c2b1 : decide (3 ≤ 35184372088832) = true:=decide_eq_true c2;clear c2
  obtain ⟨y283,hy283⟩ : ∃ y_ : List Int,y_ = (List.replicate 3 0):=⟨_,rfl⟩
  have Ny283:=Aside0.mk hy283;clear hy283
  have c3 : 2 ≤ 35184372088832:=by decide
  have c3b0:=eq_true c3;have c3b1 : decide (2 ≤ 35184372088832) = true:=decide_eq_true c3;clear c3
  obtain ⟨y286,hy286⟩ : ∃ y_ : List Int,y_ = (List.replicate 2 0):=⟨_,rfl⟩
  have Ny286:=Aside0.mk hy286;clear hy286
  have c4 : 2 ≤ 11728124029610:=by decide
  have c4b0:=eq_true c4;have c4b1 : decide (2 ≤ 11728124029610) = true:=decide_eq_true c4;clear c4
  obtain ⟨y289,hy289⟩ : ∃ y_ : List (List Int),y_ = (List.replicate 2 []):=⟨_,rfl⟩
  have Ny289:=Aside0.mk hy289;clear hy289
  go_enter Try.func18,Try.ntmps18
  try go_wp2_with (first | ((with_reducible refine gate_dst (N:=2) rfl ?_);refine box_event ?hg (N:=2) ?hd (cs:=#[.slice none 0 0,.slice none 0 0,.slice none 0 0,.slice none 0 0,.slice none 0 0]) (t:=29) ?hr ?_;(case hd=>rfl);(case hg=>rfl);(case hr=>first | (go_simp;done) | (go_simp;rfl));intro gb282 hg w5 hbox hb;have n0_:=Aside0.mk (below_step (q0_ HB) hb);have n1_:=Aside0.mk (hbox);have n2_:=Aside0.mk ((by rw [hg];exact (below_size (q0_ HB)) : w.heap.size ≤ gb282));have n3_:=Aside0.mk ((by rw [hg];exact (below_size (q0_ HB)) : w.heap.size ≤ gb282));clear HB;have HB:=n0_;have BK282:=n1_;have GW282:=n2_;have GE282:=n3_;clear n0_ n1_ n2_ n3_;clear hb hbox hg))
  have n0_:=Aside0.mk (blk_drew BK282.out);have n1_:=Aside0.mk (below_drew1 HB.out);clear BK282;clear HB;have BK282:=n0_;have HB:=n1_;clear n0_ n1_
  refine start_ (n:=6) (S:=fun w'=>True) (ds:=[]) #[false,false,false,false,false,false] (by kernel_rfl) rfl rfl trivial (fun hHeld=>?_)
  generalize w5.drew = w6 at BK282 HB hHeld ⊢
  refine join_ (σ:=Value × Value × Value × Nat) 1 #[true,true,true,true,true,false] (fun s_=>[(6,s_.1),(7,s_.2.1),(8,s_.2.2.1),(3,.pointer (some ⟨s_.2.2.2,0,none⟩)),(9,.agg #[.slice none 0 0,s_.1,s_.2.1,s_.2.2.1,.slice none 0 0])]) (fun s_ w'=>(Kd.R (Kd.int .i64) 3 w' w.heap.size (fun k_=>some k_ ≠ (s_.2.1 : Value).ownBlock) s_.1 y283) ∧ (Kd.R (Kd.int .i64) 3 w' w.heap.size (fun k_=>some k_ ≠ (s_.1 : Value).ownBlock) s_.2.1 y286) ∧ (Kd.S (Kd.slice 3 (Kd.int .i64)) 25 w' w.heap.size (fun k_=>some k_ ≠ (s_.1 : Value).ownBlock ∧ some k_ ≠ (s_.2.1 : Value).ownBlock) s_.2.2.1 y289) ∧ (w'.heap[gb282]? = some (.cells #[.slice none 0 0,.slice none 0 0,.slice none 0 0,.slice none 0 0,.slice none 0 0] 29 (0,0))) ∧ (w'.heap[s_.2.2.2]? = some (.cells #[.slice none 0 0,.slice none 0 0,.slice none 0 0,.slice none 0 0,.slice none 0 0] 29 (0,0))) ∧ (w.heap.size ≤ s_.2.2.2) ∧ (w.heap.size ≤ s_.2.2.2) ∧ (gb282 ≠ s_.2.2.2) ∧ (s_.2.2.2 ≠ gb282) ∧ (Below w.heap.size w w')) ?_ ?_
  rotate_left
  · intro hJ0_1_2_4
    refine join_ (σ:=Value × Value × Value) 2 #[true,true,true,true,false,false] (fun s_=>[(6,s_.1),(7,s_.2.1),(8,s_.2.2),(9,.agg #[.slice none 0 0,s_.1,s_.2.1,s_.2.2,.slice none 0 0])]) (fun s_ w'=>(Kd.R (Kd.int .i64) 3 w' w.heap.size (fun k_=>some k_ ≠ (s_.2.1 : Value).ownBlock) s_.1 y283) ∧ (Kd.R (Kd.int .i64) 3 w' w.heap.size (fun k_=>some k_ ≠ (s_.1 : Value).ownBlock) s_.2.1 y286) ∧ (Kd.S (Kd.slice 3 (Kd.int .i64)) 25 w' w.heap.size (fun k_=>some k_ ≠ (s_.1 : Value).ownBlock ∧ some k_ ≠ (s_.2.1 : Value).ownBlock) s_.2.2 y289) ∧ (w'.heap[gb282]? = some (.cells #[.slice none 0 0,.slice none 0 0,.slice none 0 0,.slice none 0 0,.slice none 0 0] 29 (0,0))) ∧ (Below w.heap.size w w')) ?_ ?_
    rotate_left
    · intro hJ0_1_2
      refine join_ (σ:=Value × Value × Nat) 3 #[true,true,false,false,true,false] (fun s_=>[(6,s_.1),(7,s_.2.1),(3,.pointer (some ⟨s_.2.2,0,none⟩))]) (fun s_ w'=>(Kd.R (Kd.int .i64) 3 w' w.heap.size (fun k_=>some k_ ≠ (s_.2.1 : Value).ownBlock) s_.1 y283) ∧ (Kd.R (Kd.int .i64) 3 w' w.heap.size (fun k_=>some k_ ≠ (s_.1 : Value).ownBlock) s_.2.1 y286) ∧ (w'.heap[gb282]? = some (.cells #[.slice none 0 0,.slice none 0 0,.slice none 0 0,.slice none 0 0,.slice none 0 0] 29 (0,0))) ∧ (w'.heap[s_.2.2]? = some (.cells #[.slice none 0 0,.slice none 0 0,.slice none 0 0,.slice none 0 0,.slice none 0 0] 29 (0,0))) ∧ (w.heap.size ≤ s_.2.2) ∧ (w.heap.size ≤ s_.2.2) ∧ (gb282 ≠ s_.2.2) ∧ (s_.2.2 ≠ gb282) ∧ (Below w.heap.size w w')) ?_ ?_
      rotate_left
      · intro hJ0_1_4
        refine join_ (σ:=Value × Value × Nat) 3 #[true,false,true,false,true,false] (fun s_=>[(6,s_.1),(8,s_.2.1),(3,.pointer (some ⟨s_.2.2,0,none⟩))]) (fun s_ w'=>(Kd.R (Kd.int .i64) 3 w' w.heap.size (fun _=>True) s_.1 y283) ∧ (Kd.S (Kd.slice 3 (Kd.int .i64)) 25 w' w.heap.size (fun k_=>some k_ ≠ (s_.1 : Value).ownBlock) s_.2.1 y289) ∧ (w'.heap[gb282]? = some (.cells #[.slice none 0 0,.slice none 0 0,.slice none 0 0,.slice none 0 0,.slice none 0 0] 29 (0,0))) ∧ (w'.heap[s_.2.2]? = some (.cells #[.slice none 0 0,.slice none 0 0,.slice none 0 0,.slice none 0 0,.slice none 0 0] 29 (0,0))) ∧ (w.heap.size ≤ s_.2.2) ∧ (w.heap.size ≤ s_.2.2) ∧ (gb282 ≠ s_.2.2) ∧ (s_.2.2 ≠ gb282) ∧ (Below w.heap.size w w')) ?_ ?_
        rotate_left
        · intro hJ0_2_4
          refine join_ (σ:=Value × Value × Nat) 3 #[false,true,true,false,true,false] (fun s_=>[(7,s_.1),(8,s_.2.1),(3,.pointer (some ⟨s_.2.2,0,none⟩))]) (fun s_ w'=>(Kd.R (Kd.int .i64) 3 w' w.heap.size (fun _=>True) s_.1 y286) ∧ (Kd.S (Kd.slice 3 (Kd.int .i64)) 25 w' w.heap.size (fun k_=>some k_ ≠ (s_.1 : Value).ownBlock) s_.2.1 y289) ∧ (w'.heap[gb282]? = some (.cells #[.slice none 0 0,.slice none 0 0,.slice none 0 0,.slice none 0 0,.slice none 0 0] 29 (0,0))) ∧ (w'.heap[s_.2.2]? = some (.cells #[.slice none 0 0,.slice none 0 0,.slice none 0 0,.slice none 0 0,.slice none 0 0] 29 (0,0))) ∧ (w.heap.size ≤ s_.2.2) ∧ (w.heap.size ≤ s_.2.2) ∧ (gb282 ≠ s_.2.2) ∧ (s_.2.2 ≠ gb282) ∧ (Below w.heap.size w w')) ?_ ?_
          rotate_left
          · intro hJ1_2_4
            refine join_ (σ:=Value × Value) 4 #[true,true,false,false,false,false] (fun s_=>[(6,s_.1),(7,s_.2)]) (fun s_ w'=>(Kd.R (Kd.int .i64) 3 w' w.heap.size (fun k_=>some k_ ≠ (s_.2 : Value).ownBlock) s_.1 y283) ∧ (Kd.R (Kd.int .i64) 3 w' w.heap.size (fun k_=>some k_ ≠ (s_.1 : Value).ownBlock) s_.2 y286) ∧ (w'.heap[gb282]? = some (.cells #[.slice none 0 0,.slice none 0 0,.slice none 0 0,.slice none 0 0,.slice none 0 0] 29 (0,0))) ∧ (Below w.heap.size w w')) ?_ ?_
            rotate_left
            · intro hJ0_1
              refine join_ (σ:=Value × Value) 4 #[true,false,true,false,false,false] (fun s_=>[(6,s_.1),(8,s_.2)]) (fun s_ w'=>(Kd.R (Kd.int .i64) 3 w' w.heap.size (fun _=>True) s_.1 y283) ∧ (Kd.S (Kd.slice 3 (Kd.int .i64)) 25 w' w.heap.size (fun k_=>some k_ ≠ (s_.1 : Value).ownBlock) s_.2 y289) ∧ (w'.heap[gb282]? = some (.cells #[.slice none 0 0,.slice none 0 0,.slice none 0 0,.slice none 0 0,.slice none 0 0] 29 (0,0))) ∧ (Below w.heap.size w w')) ?_ ?_
              rotate_left
              · intro hJ0_2
                refine join_ (σ:=Value × Nat) 4 #[true,false,false,false,true,false] (fun s_=>[(6,s_.1),(3,.pointer (some ⟨s_.2,0,none⟩))]) (fun s_ w'=>(Kd.R (Kd.int .i64) 3 w' w.heap.size (fun _=>True) s_.1 y283) ∧ (w'.heap[gb282]? = some (.cells #[.slice none 0 0,.slice none 0 0,.slice none 0 0,.slice none 0 0,.slice none 0 0] 29 (0,0))) ∧ (w'.heap[s_.2]? = some (.cells #[.slice none 0 0,.slice none 0 0,.slice none 0 0,.slice none 0 0,.slice none 0 0] 29 (0,0))) ∧ (w.heap.size ≤ s_.2) ∧ (w.heap.size ≤ s_.2) ∧ (gb282 ≠ s_.2) ∧ (s_.2 ≠ gb282) ∧ (Below w.heap.size w w')) ?_ ?_
                rotate_left
                · intro hJ0_4
                  refine join_ (σ:=Value × Value) 4 #[false,true,true,false,false,false] (fun s_=>[(7,s_.1),(8,s_.2)]) (fun s_ w'=>(Kd.R (Kd.int .i64) 3 w' w.heap.size (fun _=>True) s_.1 y286) ∧ (Kd.S (Kd.slice 3 (Kd.int .i64)) 25 w' w.heap.size (fun k_=>some k_ ≠ (s_.1 : Value).ownBlock) s_.2 y289) ∧ (w'.heap[gb282]? = some (.cells #[.slice none 0 0,.slice none 0 0,.slice none 0 0,.slice none 0 0,.slice none 0 0] 29 (0,0))) ∧ (Below w.heap.size w w')) ?_ ?_
                  rotate_left
                  · intro hJ1_2
                    refine join_ (σ:=Value × Nat) 4 #[false,true,false,false,true,false] (fun s_=>[(7,s_.1),(3,.pointer (some ⟨s_.2,0,none⟩))]) (fun s_ w'=>(Kd.R (Kd.int .i64) 3 w' w.heap.size (fun _=>True) s_.1 y286) ∧ (w'.heap[gb282]? = some (.cells #[.slice none 0 0,.slice none 0 0,.slice none 0 0,.slice none 0 0,.slice none 0 0] 29 (0,0))) ∧ (w'.heap[s_.2]? = some (.cells #[.slice none 0 0,.slice none 0 0,.slice none 0 0,.slice none 0 0,.slice none 0 0] 29 (0,0))) ∧ (w.heap.size ≤ s_.2) ∧ (w.heap.size ≤ s_.2) ∧ (gb282 ≠ s_.2) ∧ (s_.2 ≠ gb282) ∧ (Below w.heap.size w w')) ?_ ?_
                    rotate_left
                    · intro hJ1_4
                      refine join_ (σ:=Value × Nat) 4 #[false,false,true,false,true,false] (fun s_=>[(8,s_.1),(3,.pointer (some ⟨s_.2,0,none⟩))]) (fun s_ w'=>(Kd.S (Kd.slice 3 (Kd.int .i64)) 25 w' w.heap.size (fun _=>True) s_.1 y289) ∧ (w'.heap[gb282]? = some (.cells #[.slice none 0 0,.slice none 0 0,.slice none 0 0,.slice none 0 0,.slice none 0 0] 29 (0,0))) ∧ (w'.heap[s_.2]? = some (.cells #[.slice none 0 0,.slice none 0 0,.slice none 0 0,.slice none 0 0,.slice none 0 0] 29 (0,0))) ∧ (w.heap.size ≤ s_.2) ∧ (w.heap.size ≤ s_.2) ∧ (gb282 ≠ s_.2) ∧ (s_.2 ≠ gb282) ∧ (Below w.heap.size w w')) ?_ ?_
                      rotate_left
                      · intro hJ2_4
                        refine join_ (σ:=Value) 5 #[true,false,false,false,false,false] (fun s_=>[(6,s_)]) (fun s_ w'=>(Kd.R (Kd.int .i64) 3 w' w.heap.size (fun _=>True) s_ y283) ∧ (w'.heap[gb282]? = some (.cells #[.slice none 0 0,.slice none 0 0,.slice none 0 0,.slice none 0 0,.slice none 0 0] 29 (0,0))) ∧ (Below w.heap.size w w')) ?_ ?_
                        rotate_left
                        · intro hJ0
                          refine join_ (σ:=Value) 5 #[false,true,false,false,false,false] (fun s_=>[(7,s_)]) (fun s_ w'=>(Kd.R (Kd.int .i64) 3 w' w.heap.size (fun _=>True) s_ y286) ∧ (w'.heap[gb282]? = some (.cells #[.slice none 0 0,.slice none 0 0,.slice none 0 0,.slice none 0 0,.slice none 0 0] 29 (0,0))) ∧ (Below w.heap.size w w')) ?_ ?_
                          rotate_left
                          · intro hJ1
                            refine join_ (σ:=Value) 5 #[false,false,true,false,false,false] (fun s_=>[(8,s_)]) (fun s_ w'=>(Kd.S (Kd.slice 3 (Kd.int .i64)) 25 w' w.heap.size (fun _=>True) s_ y289) ∧ (w'.heap[gb282]? = some (.cells #[.slice none 0 0,.slice none 0 0,.slice none 0 0,.slice none 0 0,.slice none 0 0] 29 (0,0))) ∧ (Below w.heap.size w w')) ?_ ?_
                            rotate_left
                            · intro hJ2
                              refine join_ (σ:=Nat) 5 #[false,false,false,false,true,false] (fun s_=>[(3,.pointer (some ⟨s_,0,none⟩))]) (fun s_ w'=>(w'.heap[gb282]? = some (.cells #[.slice none 0 0,.slice none 0 0,.slice none 0 0,.slice none 0 0,.slice none 0 0] 29 (0,0))) ∧ (w'.heap[s_]? = some (.cells #[.slice none 0 0,.slice none 0 0,.slice none 0 0,.slice none 0 0,.slice none 0 0] 29 (0,0))) ∧ (w.heap.size ≤ s_) ∧ (w.heap.size ≤ s_) ∧ (gb282 ≠ s_) ∧ (s_ ≠ gb282) ∧ (Below w.heap.size w w')) ?_ ?_
                              rotate_left
                              · intro hJ4
                                refine four_ (i:=0) (j:=1) (k:=2) (m:=4) (Ni:=some 6) (Nj:=some 7) (Nk:=some 8) (Nm:=some 3) #[true,false,false,false,false,false] #[false,true,false,false,false,false] #[false,false,true,false,false,false] #[false,false,false,false,true,false] rfl rfl rfl rfl rfl rfl rfl rfl (by kernel_rfl) (by decide) (by decide) (by decide) (by decide) (fun K hK=>?_) (fun K hK=>?_) (fun K hK=>?_) (fun K hK=>?_)
                                · skip
                                  refine Kd.R_make_step (Kd.int .i64) _ 3 (by rfl) (N:=6) rfl 25 _ _ rfl 3 rfl rfl Try.underlying25 (.int .i64 0) 8 info3 rfl (by decide) (by omega) 0 (ok:=fun _=>True) (okp:=fun _=>True) rfl (fun _ hk=>hk) trivial (by omega) (by omega) (Below.refl _ _) (Nat.le_refl _) ?_
                                  intro v284 w7 ho8 hb hg_ hnew_
                                  clear hg_ hnew_
                                  (first | rw [← Ny283.out] at ho8 | (simp only [Int.reduceToNat] at ho8;rw [← Ny283.out] at ho8))
                                  have n0_:=Aside0.mk (Kd.R_lower ho8 (below_size (q2_ HB GE282)))
                                  have n1_:=Aside0.mk (blk_below (g:=gb282) (o:=.cells #[.slice none 0 0,.slice none 0 0,.slice none 0 0,.slice none 0 0,.slice none 0 0] 29 (0,0)) (q1_ BK282) hb)
                                  have n2_:=Aside0.mk (below_step (q2_ HB GE282) hb)
                                  clear BK282;clear HB;have HO285:=n0_;have BK282:=n1_;have HB:=n2_;clear n0_ n1_ n2_;clear hb ho8
                                  refine hK.out _ _ trivial (fun hHeld=>?_)
                                  clear hK K
                                  refine norm_ (a':=?_) ?_ ?_
                                  rotate_left
                                  · show Act.put _ (some 6) _ = _
                                    simp only [Act.put,List.setIfInBounds_toArray,List.set_cons_zero,List.set_cons_succ,i64_w,i32_w]
                                    rfl
                                  exact norm_ (by first | (simp only [putAll,Act.put,List.setIfInBounds_toArray,List.set_cons_zero,List.set_cons_succ];done) | (simp only [putAll,Act.put,List.setIfInBounds_toArray,List.set_cons_zero,List.set_cons_succ];rfl)) (hJ0 (v284) _ ⟨(q6_ HO285),(q1_ BK282),(q2_ HB GE282)⟩)
                                · skip
                                  refine Kd.R_make_step (Kd.int .i64) _ 3 (by rfl) (N:=7) rfl 25 _ _ rfl 2 rfl rfl Try.underlying25 (.int .i64 0) 8 info3 rfl (by decide) (by omega) 0 (ok:=fun _=>True) (okp:=fun _=>True) rfl (fun _ hk=>hk) trivial (by omega) (by omega) (Below.refl _ _) (Nat.le_refl _) ?_
                                  intro v287 w7 ho8 hb hg_ hnew_
                                  clear hg_ hnew_
                                  (first | rw [← Ny286.out] at ho8 | (simp only [Int.reduceToNat] at ho8;rw [← Ny286.out] at ho8))
                                  have n0_:=Aside0.mk (Kd.R_lower ho8 (below_size (q2_ HB GE282)))
                                  have n1_:=Aside0.mk (blk_below (g:=gb282) (o:=.cells #[.slice none 0 0,.slice none 0 0,.slice none 0 0,.slice none 0 0,.slice none 0 0] 29 (0,0)) (q1_ BK282) hb)
                                  have n2_:=Aside0.mk (below_step (q2_ HB GE282) hb)
                                  clear BK282;clear HB;have HO288:=n0_;have BK282:=n1_;have HB:=n2_;clear n0_ n1_ n2_;clear hb ho8
                                  refine hK.out _ _ trivial (fun hHeld=>?_)
                                  clear hK K
                                  refine norm_ (a':=?_) ?_ ?_
                                  rotate_left
                                  · show Act.put _ (some 7) _ = _
                                    simp only [Act.put,List.setIfInBounds_toArray,List.set_cons_zero,List.set_cons_succ,i64_w,i32_w]
                                    rfl
                                  exact norm_ (by first | (simp only [putAll,Act.put,List.setIfInBounds_toArray,List.set_cons_zero,List.set_cons_succ];done) | (simp only [putAll,Act.put,List.setIfInBounds_toArray,List.set_cons_zero,List.set_cons_succ];rfl)) (hJ1 (v287) _ ⟨(q6_ HO288),(q1_ BK282),(q2_ HB GE282)⟩)
                                · skip
                                  refine Kd.S_make_step (Kd.slice 3 (Kd.int .i64)) _ 25 (by rfl) (N:=8) rfl 26 _ _ rfl 2 rfl rfl Try.underlying26 (.slice none 0 0) 24 info25 rfl (by decide) (by omega) [] (ok:=fun _=>True) (okp:=fun _=>True) ⟨_,rfl,Kd.R_nil _ _ _ _ _⟩ (fun _ hk=>hk) trivial (by omega) (by omega) (Below.refl _ _) (Nat.le_refl _) ?_
                                  intro v290 w7 ho8 hb hg_ hnew_
                                  clear hg_ hnew_
                                  (first | rw [← Ny289.out] at ho8 | (simp only [Int.reduceToNat] at ho8;rw [← Ny289.out] at ho8))
                                  have n0_:=Aside0.mk (Kd.S_lower ho8 (below_size (q2_ HB GE282)))
                                  have n1_:=Aside0.mk (blk_below (g:=gb282) (o:=.cells #[.slice none 0 0,.slice none 0 0,.slice none 0 0,.slice none 0 0,.slice none 0 0] 29 (0,0)) (q1_ BK282) hb)
                                  have n2_:=Aside0.mk (below_step (q2_ HB GE282) hb)
                                  clear BK282;clear HB;have HO291:=n0_;have BK282:=n1_;have HB:=n2_;clear n0_ n1_ n2_;clear hb ho8
                                  refine hK.out _ _ trivial (fun hHeld=>?_)
                                  clear hK K
                                  refine norm_ (a':=?_) ?_ ?_
                                  rotate_left
                                  · show Act.put _ (some 8) _ = _
                                    simp only [Act.put,List.setIfInBounds_toArray,List.set_cons_zero,List.set_cons_succ,i64_w,i32_w]
                                    rfl
                                  exact norm_ (by first | (simp only [putAll,Act.put,List.setIfInBounds_toArray,List.set_cons_zero,List.set_cons_succ];done) | (simp only [putAll,Act.put,List.setIfInBounds_toArray,List.set_cons_zero,List.set_cons_succ];rfl)) (hJ2 (v290) _ ⟨(q15_ HO291),(q1_ BK282),(q2_ HB GE282)⟩)
                                · skip
                                  refine box_step ?hg (N:=3) ?hd (cs:=#[.slice none 0 0,.slice none 0 0,.slice none 0 0,.slice none 0 0,.slice none 0 0]) (t:=29) ?hr ?_;(case hd=>rfl);(case hg=>rfl);(case hr=>first | (go_simp;done) | (go_simp;rfl))
                                  intro gb292 hg w7 hbox hb
                                  have n0_:=Aside0.mk (blk_below (g:=gb282) (o:=.cells #[.slice none 0 0,.slice none 0 0,.slice none 0 0,.slice none 0 0,.slice none 0 0] 29 (0,0)) (q1_ BK282) hb)
                                  have n1_:=Aside0.mk (below_step (q2_ HB GE282) hb)
                                  have n2_:=Aside0.mk (hbox)
                                  have n3_:=Aside0.mk ((by rw [hg];exact (below_size (q2_ HB GE282)) : w.heap.size ≤ gb292))
                                  have n4_:=Aside0.mk ((by rw [hg];exact (below_size (q2_ HB GE282)) : w.heap.size ≤ gb292))
                                  have n5_:=Aside0.mk ((by rw [hg];exact Nat.ne_of_lt (blk_lt (g:=gb282) (o:=.cells #[.slice none 0 0,.slice none 0 0,.slice none 0 0,.slice none 0 0,.slice none 0 0] 29 (0,0)) (q1_ BK282)) : gb282 ≠ gb292))
                                  have n6_:=Aside0.mk ((by rw [hg];exact Nat.ne_of_gt (blk_lt (g:=gb282) (o:=.cells #[.slice none 0 0,.slice none 0 0,.slice none 0 0,.slice none 0 0,.slice none 0 0] 29 (0,0)) (q1_ BK282)) : gb292 ≠ gb282))
                                  clear BK282;clear HB;have BK282:=n0_;have HB:=n1_;have BK292:=n2_;have GW292:=n3_;have GE292:=n4_;have NB282_292:=n5_;have NB292_282:=n6_;clear n0_ n1_ n2_ n3_ n4_ n5_ n6_;clear hb hbox hg
                                  refine hK.out _ _ trivial (fun hHeld=>?_)
                                  clear hK K
                                  refine norm_ (a':=?_) ?_ ?_
                                  rotate_left
                                  · show Act.put _ (some 3) _ = _
                                    simp only [Act.put,List.setIfInBounds_toArray,List.set_cons_zero,List.set_cons_succ,i64_w,i32_w]
                                    rfl
                                  exact norm_ (by first | (simp only [putAll,Act.put,List.setIfInBounds_toArray,List.set_cons_zero,List.set_cons_succ];done) | (simp only [putAll,Act.put,List.setIfInBounds_toArray,List.set_cons_zero,List.set_cons_succ];rfl)) (hJ4 (gb292) _ ⟨(q1_ BK282),(q1_ BK292),GW292.out,GE292.out,NB282_292.out,NB292_282.out,(q4_ HB GE282 GE292)⟩)
                              · skip
                                rintro gb292 w8 ⟨h0_,h1_,h2_,h3_,h4_,h5_,h6_⟩
                                have n0_ : Aside0 (w8.heap[gb282]? = some (.cells #[.slice none 0 0,.slice none 0 0,.slice none 0 0,.slice none 0 0,.slice none 0 0] 29 (0,0))):=⟨h0_⟩;have n1_ : Aside0 (w8.heap[gb292]? = some (.cells #[.slice none 0 0,.slice none 0 0,.slice none 0 0,.slice none 0 0,.slice none 0 0] 29 (0,0))):=⟨h1_⟩;have n2_ : Aside0 (w.heap.size ≤ gb292):=⟨h2_⟩;have n3_ : Aside0 (w.heap.size ≤ gb292):=⟨h3_⟩;have n4_ : Aside0 (gb282 ≠ gb292):=⟨h4_⟩;have n5_ : Aside0 (gb292 ≠ gb282):=⟨h5_⟩;have n6_ : Aside0 (Below w.heap.size w w8):=⟨h6_⟩;clear BK282;clear HB;clear h0_ h1_ h2_ h3_ h4_ h5_ h6_;have BK282:=n0_;have BK292:=n1_;have GW292:=n2_;have GE292:=n3_;have NB282_292:=n4_;have NB292_282:=n5_;have HB:=n6_;clear n0_ n1_ n2_ n3_ n4_ n5_ n6_;have hHeld:=trivial
                                refine norm_ (a':=?_) ?_ ?_
                                rotate_left
                                · simp only [putAll,Act.put,List.setIfInBounds_toArray,List.set_cons_zero,List.set_cons_succ]
                                  rfl
                                refine three_ (i:=0) (j:=1) (k:=2) (Ni:=some 6) (Nj:=some 7) (Nk:=some 8) #[true,false,false,false,true,false] #[false,true,false,false,true,false] #[false,false,true,false,true,false] rfl rfl rfl rfl rfl rfl (by kernel_rfl) (by decide) (by decide) (by decide) (fun K hK=>?_) (fun K hK=>?_) (fun K hK=>?_)
                                · skip
                                  refine Kd.R_make_step (Kd.int .i64) _ 3 (by rfl) (N:=6) rfl 25 _ _ rfl 3 rfl rfl Try.underlying25 (.int .i64 0) 8 info3 rfl (by decide) (by omega) 0 (ok:=fun _=>True) (okp:=fun _=>True) rfl (fun _ hk=>hk) trivial (by omega) (by omega) (Below.refl _ _) (Nat.le_refl _) ?_
                                  intro v284 w9 ho10 hb hg_ hnew_
                                  clear hg_ hnew_
                                  (first | rw [← Ny283.out] at ho10 | (simp only [Int.reduceToNat] at ho10;rw [← Ny283.out] at ho10))
                                  have n0_:=Aside0.mk (Kd.R_lower ho10 (below_size (q4_ HB GE282 GE292)))
                                  have n1_:=Aside0.mk (blk_below (g:=gb282) (o:=.cells #[.slice none 0 0,.slice none 0 0,.slice none 0 0,.slice none 0 0,.slice none 0 0] 29 (0,0)) (q1_ BK282) hb)
                                  have n2_:=Aside0.mk (blk_below (g:=gb292) (o:=.cells #[.slice none 0 0,.slice none 0 0,.slice none 0 0,.slice none 0 0,.slice none 0 0] 29 (0,0)) (q1_ BK292) hb)
                                  have n3_:=Aside0.mk (below_step (q4_ HB GE282 GE292) hb)
                                  clear BK282;clear BK292;clear HB;have HO285:=n0_;have BK282:=n1_;have BK292:=n2_;have HB:=n3_;clear n0_ n1_ n2_ n3_;clear hb ho10
                                  refine hK.out _ _ trivial (fun hHeld=>?_)
                                  clear hK K
                                  refine norm_ (a':=?_) ?_ ?_
                                  rotate_left
                                  · show Act.put _ (some 6) _ = _
                                    simp only [Act.put,List.setIfInBounds_toArray,List.set_cons_zero,List.set_cons_succ,i64_w,i32_w]
                                    rfl
                                  exact norm_ (by first | (simp only [putAll,Act.put,List.setIfInBounds_toArray,List.set_cons_zero,List.set_cons_succ];done) | (simp only [putAll,Act.put,List.setIfInBounds_toArray,List.set_cons_zero,List.set_cons_succ];rfl)) (hJ0_4 (v284,gb292) _ ⟨(q6_ HO285),(q1_ BK282),(q1_ BK292),GW292.out,GE292.out,NB282_292.out,NB292_282.out,(q4_ HB GE282 GE292)⟩)
                                · skip
                                  refine Kd.R_make_step (Kd.int .i64) _ 3 (by rfl) (N:=7) rfl 25 _ _ rfl 2 rfl rfl Try.underlying25 (.int .i64 0) 8 info3 rfl (by decide) (by omega) 0 (ok:=fun _=>True) (okp:=fun _=>True) rfl (fun _ hk=>hk) trivial (by omega) (by omega) (Below.refl _ _) (Nat.le_refl _) ?_
                                  intro v287 w9 ho10 hb hg_ hnew_
                                  clear hg_ hnew_
                                  (first | rw [← Ny286.out] at ho10 | (simp only [Int.reduceToNat] at ho10;rw [← Ny286.out] at ho10))
                                  have n0_:=Aside0.mk (Kd.R_lower ho10 (below_size (q4_ HB GE282 GE292)))
                                  have n1_:=Aside0.mk (blk_below (g:=gb282) (o:=.cells #[.slice none 0 0,.slice none 0 0,.slice none 0 0,.slice none 0 0,.slice none 0 0] 29 (0,0)) (q1_ BK282) hb)
                                  have n2_:=Aside0.mk (blk_below (g:=gb292) (o:=.cells #[.slice none 0 0,.slice none 0 0,.slice none 0 0,.slice none 0 0,.slice none 0 0] 29 (0,0)) (q1_ BK292) hb)
                                  have n3_:=Aside0.mk (below_step (q4_ HB GE282 GE292) hb)
                                  clear BK282;clear BK292;clear HB;have HO288:=n0_;have BK282:=n1_;have BK292:=n2_;have HB:=n3_;clear n0_ n1_ n2_ n3_;clear hb ho10
                                  refine hK.out _ _ trivial (fun hHeld=>?_)
                                  clear hK K
                                  refine norm_ (a':=?_) ?_ ?_
                                  rotate_left
                                  · show Act.put _ (some 7) _ = _
                                    simp only [Act.put,List.setIfInBounds_toArray,List.set_cons_zero,List.set_cons_succ,i64_w,i32_w]
                                    rfl
                                  exact norm_ (by first | (simp only [putAll,Act.put,List.setIfInBounds_toArray,List.set_cons_zero,List.set_cons_succ];done) | (simp only [putAll,Act.put,List.setIfInBounds_toArray,List.set_cons_zero,List.set_cons_succ];rfl)) (hJ1_4 (v287,gb292) _ ⟨(q6_ HO288),(q1_ BK282),(q1_ BK292),GW292.out,GE292.out,NB282_292.out,NB292_282.out,(q4_ HB GE282 GE292)⟩)
                                · skip
                                  refine Kd.S_make_step (Kd.slice 3 (Kd.int .i64)) _ 25 (by rfl) (N:=8) rfl 26 _ _ rfl 2 rfl rfl Try.underlying26 (.slice none 0 0) 24 info25 rfl (by decide) (by omega) [] (ok:=fun _=>True) (okp:=fun _=>True) ⟨_,rfl,Kd.R_nil _ _ _ _ _⟩ (fun _ hk=>hk) trivial (by omega) (by omega) (Below.refl _ _) (Nat.le_refl _) ?_
                                  intro v290 w9 ho10 hb hg_ hnew_
                                  clear hg_ hnew_
                                  (first | rw [← Ny289.out] at ho10 | (simp only [Int.reduceToNat] at ho10;rw [← Ny289.out] at ho10))
                                  have n0_:=Aside0.mk (Kd.S_lower ho10 (below_size (q4_ HB GE282 GE292)))
                                  have n1_:=Aside0.mk (blk_below (g:=gb282) (o:=.cells #[.slice none 0 0,.slice none 0 0,.slice none 0 0,.slice none 0 0,.slice none 0 0] 29 (0,0)) (q1_ BK282) hb)
                                  have n2_:=Aside0.mk (blk_below (g:=gb292) (o:=.cells #[.slice none 0 0,.slice none 0 0,.slice none 0 0,.slice none 0 0,.slice none 0 0] 29 (0,0)) (q1_ BK292) hb)
                                  have n3_:=Aside0.mk (below_step (q4_ HB GE282 GE292) hb)
                                  clear BK282;clear BK292;clear HB;have HO291:=n0_;have BK282:=n1_;have BK292:=n2_;have HB:=n3_;clear n0_ n1_ n2_ n3_;clear hb ho10
                                  refine hK.out _ _ trivial (fun hHeld=>?_)
                                  clear hK K
                                  refine norm_ (a':=?_) ?_ ?_
                                  rotate_left
                                  · show Act.put _ (some 8) _ = _
                                    simp only [Act.put,List.setIfInBounds_toArray,List.set_cons_zero,List.set_cons_succ,i64_w,i32_w]
                                    rfl
                                  exact norm_ (by first | (simp only [putAll,Act.put,List.setIfInBounds_toArray,List.set_cons_zero,List.set_cons_succ];done) | (simp only [putAll,Act.put,List.setIfInBounds_toArray,List.set_cons_zero,List.set_cons_succ];rfl)) (hJ2_4 (v290,gb292) _ ⟨(q15_ HO291),(q1_ BK282),(q1_ BK292),GW292.out,GE292.out,NB282_292.out,NB292_282.out,(q4_ HB GE282 GE292)⟩)
                            · skip
                              rintro v290 w9 ⟨h0_,h1_,h2_⟩
                              have n0_ : Aside0 (Kd.S (Kd.slice 3 (Kd.int .i64)) 25 w9 w.heap.size (fun _=>True) v290 y289):=⟨h0_⟩;have n1_ : Aside0 (w9.heap[gb282]? = some (.cells #[.slice none 0 0,.slice none 0 0,.slice none 0 0,.slice none 0 0,.slice none 0 0] 29 (0,0))):=⟨h1_⟩;have n2_ : Aside0 (Below w.heap.size w w9):=⟨h2_⟩;clear BK282;clear HB;clear h0_ h1_ h2_;have HO291:=n0_;have BK282:=n1_;have HB:=n2_;clear n0_ n1_ n2_;have hHeld:=trivial
                              refine norm_ (a':=?_) ?_ ?_
                              rotate_left
                              · simp only [putAll,Act.put,List.setIfInBounds_toArray,List.set_cons_zero,List.set_cons_succ]
                                rfl
                              refine three_ (i:=0) (j:=1) (k:=4) (Ni:=some 6) (Nj:=some 7) (Nk:=some 3) #[true,false,true,false,false,false] #[false,true,true,false,false,false] #[false,false,true,false,true,false] rfl rfl rfl rfl rfl rfl (by kernel_rfl) (by decide) (by decide) (by decide) (fun K hK=>?_) (fun K hK=>?_) (fun K hK=>?_)
                              · skip
                                refine Kd.R_make_step (Kd.int .i64) _ 3 (by rfl) (N:=6) rfl 25 _ _ rfl 3 rfl rfl Try.underlying25 (.int .i64 0) 8 info3 rfl (by decide) (by omega) 0 (ok:=fun _=>True) (okp:=fun _=>True) rfl (fun _ hk=>hk) trivial (by omega) (by omega) (Below.refl _ _) (Nat.le_refl _) ?_
                                intro v284 w10 ho11 hb hg_ hnew_
                                clear hg_ hnew_
                                (first | rw [← Ny283.out] at ho11 | (simp only [Int.reduceToNat] at ho11;rw [← Ny283.out] at ho11))
                                have n0_:=Aside0.mk (Kd.S_elder' (q15_ HO291) (Kd.R_base ho11) hb)
                                have n1_:=Aside0.mk (Kd.R_lower ho11 (below_size (q2_ HB GE282)))
                                have n2_:=Aside0.mk (blk_below (g:=gb282) (o:=.cells #[.slice none 0 0,.slice none 0 0,.slice none 0 0,.slice none 0 0,.slice none 0 0] 29 (0,0)) (q1_ BK282) hb)
                                have n3_:=Aside0.mk (below_step (q2_ HB GE282) hb)
                                clear HO291;clear BK282;clear HB;have HO291:=n0_;have HO285:=n1_;have BK282:=n2_;have HB:=n3_;clear n0_ n1_ n2_ n3_;clear hb ho11
                                refine hK.out _ _ trivial (fun hHeld=>?_)
                                clear hK K
                                refine norm_ (a':=?_) ?_ ?_
                                rotate_left
                                · show Act.put _ (some 6) _ = _
                                  simp only [Act.put,List.setIfInBounds_toArray,List.set_cons_zero,List.set_cons_succ,i64_w,i32_w]
                                  rfl
                                exact norm_ (by first | (simp only [putAll,Act.put,List.setIfInBounds_toArray,List.set_cons_zero,List.set_cons_succ];done) | (simp only [putAll,Act.put,List.setIfInBounds_toArray,List.set_cons_zero,List.set_cons_succ];rfl)) (hJ0_2 (v284,v290) _ ⟨(q6_ HO285),(by (with_reducible repeat (first | apply Kd.S_alloc | apply Kd.S_drewN | apply Kd.S_drew));exact Kd.S_mono HO291.out (fun _ hk=>hk.2)),(q1_ BK282),(q2_ HB GE282)⟩)
                              · skip
                                refine Kd.R_make_step (Kd.int .i64) _ 3 (by rfl) (N:=7) rfl 25 _ _ rfl 2 rfl rfl Try.underlying25 (.int .i64 0) 8 info3 rfl (by decide) (by omega) 0 (ok:=fun _=>True) (okp:=fun _=>True) rfl (fun _ hk=>hk) trivial (by omega) (by omega) (Below.refl _ _) (Nat.le_refl _) ?_
                                intro v287 w10 ho11 hb hg_ hnew_
                                clear hg_ hnew_
                                (first | rw [← Ny286.out] at ho11 | (simp only [Int.reduceToNat] at ho11;rw [← Ny286.out] at ho11))
                                have n0_:=Aside0.mk (Kd.S_elder' (q15_ HO291) (Kd.R_base ho11) hb)
                                have n1_:=Aside0.mk (Kd.R_lower ho11 (below_size (q2_ HB GE282)))
                                have n2_:=Aside0.mk (blk_below (g:=gb282) (o:=.cells #[.slice none 0 0,.slice none 0 0,.slice none 0 0,.slice none 0 0,.slice none 0 0] 29 (0,0)) (q1_ BK282) hb)
                                have n3_:=Aside0.mk (below_step (q2_ HB GE282) hb)
                                clear HO291;clear BK282;clear HB;have HO291:=n0_;have HO288:=n1_;have BK282:=n2_;have HB:=n3_;clear n0_ n1_ n2_ n3_;clear hb ho11
                                refine hK.out _ _ trivial (fun hHeld=>?_)
                                clear hK K
                                refine norm_ (a':=?_) ?_ ?_
                                rotate_left
                                · show Act.put _ (some 7) _ = _
                                  simp only [Act.put,List.setIfInBounds_toArray,List.set_cons_zero,List.set_cons_succ,i64_w,i32_w]
                                  rfl
                                exact norm_ (by first | (simp only [putAll,Act.put,List.setIfInBounds_toArray,List.set_cons_zero,List.set_cons_succ];done) | (simp only [putAll,Act.put,List.setIfInBounds_toArray,List.set_cons_zero,List.set_cons_succ];rfl)) (hJ1_2 (v287,v290) _ ⟨(q6_ HO288),(by (with_reducible repeat (first | apply Kd.S_alloc | apply Kd.S_drewN | apply Kd.S_drew));exact Kd.S_mono HO291.out (fun _ hk=>hk.2)),(q1_ BK282),(q2_ HB GE282)⟩)
                              · skip
                                refine box_step ?hg (N:=3) ?hd (cs:=#[.slice none 0 0,.slice none 0 0,.slice none 0 0,.slice none 0 0,.slice none 0 0]) (t:=29) ?hr ?_;(case hd=>rfl);(case hg=>rfl);(case hr=>first | (go_simp;done) | (go_simp;rfl))
                                intro gb292 hg w10 hbox hb
                                have n0_:=Aside0.mk (Kd.S_below (q15_ HO291) hb)
                                have n1_:=Aside0.mk (blk_below (g:=gb282) (o:=.cells #[.slice none 0 0,.slice none 0 0,.slice none 0 0,.slice none 0 0,.slice none 0 0] 29 (0,0)) (q1_ BK282) hb)
                                have n2_:=Aside0.mk (below_step (q2_ HB GE282) hb)
                                have n3_:=Aside0.mk (hbox)
                                have n4_:=Aside0.mk ((by rw [hg];exact (below_size (q2_ HB GE282)) : w.heap.size ≤ gb292))
                                have n5_:=Aside0.mk ((by rw [hg];exact (below_size (q2_ HB GE282)) : w.heap.size ≤ gb292))
                                have n6_:=Aside0.mk ((by rw [hg];exact Nat.ne_of_lt (blk_lt (g:=gb282) (o:=.cells #[.slice none 0 0,.slice none 0 0,.slice none 0 0,.slice none 0 0,.slice none 0 0] 29 (0,0)) (q1_ BK282)) : gb282 ≠ gb292))
                                have n7_:=Aside0.mk ((by rw [hg];exact Nat.ne_of_gt (blk_lt (g:=gb282) (o:=.cells #[.slice none 0 0,.slice none 0 0,.slice none 0 0,.slice none 0 0,.slice none 0 0] 29 (0,0)) (q1_ BK282)) : gb292 ≠ gb282))
                                clear HO291;clear BK282;clear HB;have HO291:=n0_;have BK282:=n1_;have HB:=n2_;have BK292:=n3_;have GW292:=n4_;have GE292:=n5_;have NB282_292:=n6_;have NB292_282:=n7_;clear n0_ n1_ n2_ n3_ n4_ n5_ n6_ n7_;clear hb hbox hg
                                refine hK.out _ _ trivial (fun hHeld=>?_)
                                clear hK K
                                refine norm_ (a':=?_) ?_ ?_
                                rotate_left
                                · show Act.put _ (some 3) _ = _
                                  simp only [Act.put,List.setIfInBounds_toArray,List.set_cons_zero,List.set_cons_succ,i64_w,i32_w]
                                  rfl
                                exact norm_ (by first | (simp only [putAll,Act.put,List.setIfInBounds_toArray,List.set_cons_zero,List.set_cons_succ];done) | (simp only [putAll,Act.put,List.setIfInBounds_toArray,List.set_cons_zero,List.set_cons_succ];rfl)) (hJ2_4 (v290,gb292) _ ⟨(q15_ HO291),(q1_ BK282),(q1_ BK292),GW292.out,GE292.out,NB282_292.out,NB292_282.out,(q4_ HB GE282 GE292)⟩)
                          · skip
                            rintro v287 w9 ⟨h0_,h1_,h2_⟩
                            have n0_ : Aside0 (Kd.R (Kd.int .i64) 3 w9 w.heap.size (fun _=>True) v287 y286):=⟨h0_⟩;have n1_ : Aside0 (w9.heap[gb282]? = some (.cells #[.slice none 0 0,.slice none 0 0,.slice none 0 0,.slice none 0 0,.slice none 0 0] 29 (0,0))):=⟨h1_⟩;have n2_ : Aside0 (Below w.heap.size w w9):=⟨h2_⟩;clear BK282;clear HB;clear h0_ h1_ h2_;have HO288:=n0_;have BK282:=n1_;have HB:=n2_;clear n0_ n1_ n2_;have hHeld:=trivial
                            refine norm_ (a':=?_) ?_ ?_
                            rotate_left
                            · simp only [putAll,Act.put,List.setIfInBounds_toArray,List.set_cons_zero,List.set_cons_succ]
                              rfl
                            refine three_ (i:=0) (j:=2) (k:=4) (Ni:=some 6) (Nj:=some 8) (Nk:=some 3) #[true,true,false,false,false,false] #[false,true,true,false,false,false] #[false,true,false,false,true,false] rfl rfl rfl rfl rfl rfl (by kernel_rfl) (by decide) (by decide) (by decide) (fun K hK=>?_) (fun K hK=>?_) (fun K hK=>?_)
                            · skip
                              refine Kd.R_make_step (Kd.int .i64) _ 3 (by rfl) (N:=6) rfl 25 _ _ rfl 3 rfl rfl Try.underlying25 (.int .i64 0) 8 info3 rfl (by decide) (by omega) 0 (ok:=fun _=>True) (okp:=fun _=>True) rfl (fun _ hk=>hk) trivial (by omega) (by omega) (Below.refl _ _) (Nat.le_refl _) ?_
                              intro v284 w10 ho11 hb hg_ hnew_
                              clear hg_ hnew_
                              (first | rw [← Ny283.out] at ho11 | (simp only [Int.reduceToNat] at ho11;rw [← Ny283.out] at ho11))
                              have n0_:=Aside0.mk (Kd.R_elder' (q6_ HO288) (Kd.R_base ho11) hb)
                              have n1_:=Aside0.mk (Kd.R_lower (Kd.R_new' ho11 (Kd.R_lt (q6_ HO288))) (below_size (q2_ HB GE282)))
                              have n2_:=Aside0.mk (blk_below (g:=gb282) (o:=.cells #[.slice none 0 0,.slice none 0 0,.slice none 0 0,.slice none 0 0,.slice none 0 0] 29 (0,0)) (q1_ BK282) hb)
                              have n3_:=Aside0.mk (below_step (q2_ HB GE282) hb)
                              clear HO288;clear BK282;clear HB;have HO288:=n0_;have HO285:=n1_;have BK282:=n2_;have HB:=n3_;clear n0_ n1_ n2_ n3_;clear hb ho11
                              refine hK.out _ _ trivial (fun hHeld=>?_)
                              clear hK K
                              refine norm_ (a':=?_) ?_ ?_
                              rotate_left
                              · show Act.put _ (some 6) _ = _
                                simp only [Act.put,List.setIfInBounds_toArray,List.set_cons_zero,List.set_cons_succ,i64_w,i32_w]
                                rfl
                              exact norm_ (by first | (simp only [putAll,Act.put,List.setIfInBounds_toArray,List.set_cons_zero,List.set_cons_succ];done) | (simp only [putAll,Act.put,List.setIfInBounds_toArray,List.set_cons_zero,List.set_cons_succ];rfl)) (hJ0_1 (v284,v287) _ ⟨(by (with_reducible repeat (first | apply Kd.R_alloc | apply Kd.R_drewN | apply Kd.R_drew));exact Kd.R_mono HO285.out (fun _ hk=>hk.2)),(by (with_reducible repeat (first | apply Kd.R_alloc | apply Kd.R_drewN | apply Kd.R_drew));exact Kd.R_mono HO288.out (fun _ hk=>hk.2)),(q1_ BK282),(q2_ HB GE282)⟩)
                            · skip
                              refine Kd.S_make_step (Kd.slice 3 (Kd.int .i64)) _ 25 (by rfl) (N:=8) rfl 26 _ _ rfl 2 rfl rfl Try.underlying26 (.slice none 0 0) 24 info25 rfl (by decide) (by omega) [] (ok:=fun _=>True) (okp:=fun _=>True) ⟨_,rfl,Kd.R_nil _ _ _ _ _⟩ (fun _ hk=>hk) trivial (by omega) (by omega) (Below.refl _ _) (Nat.le_refl _) ?_
                              intro v290 w10 ho11 hb hg_ hnew_
                              clear hg_ hnew_
                              (first | rw [← Ny289.out] at ho11 | (simp only [Int.reduceToNat] at ho11;rw [← Ny289.out] at ho11))
                              have n0_:=Aside0.mk (Kd.R_below (q6_ HO288) hb)
                              have n1_:=Aside0.mk (Kd.S_lower (Kd.S_new' ho11 (Kd.R_lt (q6_ HO288))) (below_size (q2_ HB GE282)))
                              have n2_:=Aside0.mk (blk_below (g:=gb282) (o:=.cells #[.slice none 0 0,.slice none 0 0,.slice none 0 0,.slice none 0 0,.slice none 0 0] 29 (0,0)) (q1_ BK282) hb)
                              have n3_:=Aside0.mk (below_step (q2_ HB GE282) hb)
                              clear HO288;clear BK282;clear HB;have HO288:=n0_;have HO291:=n1_;have BK282:=n2_;have HB:=n3_;clear n0_ n1_ n2_ n3_;clear hb ho11
                              refine hK.out _ _ trivial (fun hHeld=>?_)
                              clear hK K
                              refine norm_ (a':=?_) ?_ ?_
                              rotate_left
                              · show Act.put _ (some 8) _ = _
                                simp only [Act.put,List.setIfInBounds_toArray,List.set_cons_zero,List.set_cons_succ,i64_w,i32_w]
                                rfl
                              exact norm_ (by first | (simp only [putAll,Act.put,List.setIfInBounds_toArray,List.set_cons_zero,List.set_cons_succ];done) | (simp only [putAll,Act.put,List.setIfInBounds_toArray,List.set_cons_zero,List.set_cons_succ];rfl)) (hJ1_2 (v287,v290) _ ⟨(q6_ HO288),(by (with_reducible repeat (first | apply Kd.S_alloc | apply Kd.S_drewN | apply Kd.S_drew));exact Kd.S_mono HO291.out (fun _ hk=>hk.2)),(q1_ BK282),(q2_ HB GE282)⟩)
                            · skip
                              refine box_step ?hg (N:=3) ?hd (cs:=#[.slice none 0 0,.slice none 0 0,.slice none 0 0,.slice none 0 0,.slice none 0 0]) (t:=29) ?hr ?_;(case hd=>rfl);(case hg=>rfl);(case hr=>first | (go_simp;done) | (go_simp;rfl))
                              intro gb292 hg w10 hbox hb
                              have n0_:=Aside0.mk (Kd.R_below (q6_ HO288) hb)
                              have n1_:=Aside0.mk (blk_below (g:=gb282) (o:=.cells #[.slice none 0 0,.slice none 0 0,.slice none 0 0,.slice none 0 0,.slice none 0 0] 29 (0,0)) (q1_ BK282) hb)
                              have n2_:=Aside0.mk (below_step (q2_ HB GE282) hb)
                              have n3_:=Aside0.mk (hbox)
                              have n4_:=Aside0.mk ((by rw [hg];exact (below_size (q2_ HB GE282)) : w.heap.size ≤ gb292))
                              have n5_:=Aside0.mk ((by rw [hg];exact (below_size (q2_ HB GE282)) : w.heap.size ≤ gb292))
                              have n6_:=Aside0.mk ((by rw [hg];exact Nat.ne_of_lt (blk_lt (g:=gb282) (o:=.cells #[.slice none 0 0,.slice none 0 0,.slice none 0 0,.slice none 0 0,.slice none 0 0] 29 (0,0)) (q1_ BK282)) : gb282 ≠ gb292))
                              have n7_:=Aside0.mk ((by rw [hg];exact Nat.ne_of_gt (blk_lt (g:=gb282) (o:=.cells #[.slice none 0 0,.slice none 0 0,.slice none 0 0,.slice none 0 0,.slice none 0 0] 29 (0,0)) (q1_ BK282)) : gb292 ≠ gb282))
                              clear HO288;clear BK282;clear HB;have HO288:=n0_;have BK282:=n1_;have HB:=n2_;have BK292:=n3_;have GW292:=n4_;have GE292:=n5_;have NB282_292:=n6_;have NB292_282:=n7_;clear n0_ n1_ n2_ n3_ n4_ n5_ n6_ n7_;clear hb hbox hg
                              refine hK.out _ _ trivial (fun hHeld=>?_)
                              clear hK K
                              refine norm_ (a':=?_) ?_ ?_
                              rotate_left
                              · show Act.put _ (some 3) _ = _
                                simp only [Act.put,List.setIfInBounds_toArray,List.set_cons_zero,List.set_cons_succ,i64_w,i32_w]
                                rfl
                              exact norm_ (by first | (simp only [putAll,Act.put,List.setIfInBounds_toArray,List.set_cons_zero,List.set_cons_succ];done) | (simp only [putAll,Act.put,List.setIfInBounds_toArray,List.set_cons_zero,List.set_cons_succ];rfl)) (hJ1_4 (v287,gb292) _ ⟨(q6_ HO288),(q1_ BK282),(q1_ BK292),GW292.out,GE292.out,NB282_292.out,NB292_282.out,(q4_ HB GE282 GE292)⟩)
                        · skip
                          rintro v284 w9 ⟨h0_,h1_,h2_⟩
                          have n0_ : Aside0 (Kd.R (Kd.int .i64) 3 w9 w.heap.size (fun _=>True) v284 y283):=⟨h0_⟩;have n1_ : Aside0 (w9.heap[gb282]? = some (.cells #[.slice none 0 0,.slice none 0 0,.slice none 0 0,.slice none 0 0,.slice none 0 0] 29 (0,0))):=⟨h1_⟩;have n2_ : Aside0 (Below w.heap.size w w9):=⟨h2_⟩;clear BK282;clear HB;clear h0_ h1_ h2_;have HO285:=n0_;have BK282:=n1_;have HB:=n2_;clear n0_ n1_ n2_;have hHeld:=trivial
                          refine norm_ (a':=?_) ?_ ?_
                          rotate_left
                          · simp only [putAll,Act.put,List.setIfInBounds_toArray,List.set_cons_zero,List.set_cons_succ]
                            rfl
                          refine three_ (i:=1) (j:=2) (k:=4) (Ni:=some 7) (Nj:=some 8) (Nk:=some 3) #[true,true,false,false,false,false] #[true,false,true,false,false,false] #[true,false,false,false,true,false] rfl rfl rfl rfl rfl rfl (by kernel_rfl) (by decide) (by decide) (by decide) (fun K hK=>?_) (fun K hK=>?_) (fun K hK=>?_)
                          · skip
                            refine Kd.R_make_step (Kd.int .i64) _ 3 (by rfl) (N:=7) rfl 25 _ _ rfl 2 rfl rfl Try.underlying25 (.int .i64 0) 8 info3 rfl (by decide) (by omega) 0 (ok:=fun _=>True) (okp:=fun _=>True) rfl (fun _ hk=>hk) trivial (by omega) (by omega) (Below.refl _ _) (Nat.le_refl _) ?_
                            intro v287 w10 ho11 hb hg_ hnew_
                            clear hg_ hnew_
                            (first | rw [← Ny286.out] at ho11 | (simp only [Int.reduceToNat] at ho11;rw [← Ny286.out] at ho11))
                            have n0_:=Aside0.mk (Kd.R_elder' (q6_ HO285) (Kd.R_base ho11) hb)
                            have n1_:=Aside0.mk (Kd.R_lower (Kd.R_new' ho11 (Kd.R_lt (q6_ HO285))) (below_size (q2_ HB GE282)))
                            have n2_:=Aside0.mk (blk_below (g:=gb282) (o:=.cells #[.slice none 0 0,.slice none 0 0,.slice none 0 0,.slice none 0 0,.slice none 0 0] 29 (0,0)) (q1_ BK282) hb)
                            have n3_:=Aside0.mk (below_step (q2_ HB GE282) hb)
                            clear HO285;clear BK282;clear HB;have HO285:=n0_;have HO288:=n1_;have BK282:=n2_;have HB:=n3_;clear n0_ n1_ n2_ n3_;clear hb ho11
                            refine hK.out _ _ trivial (fun hHeld=>?_)
                            clear hK K
                            refine norm_ (a':=?_) ?_ ?_
                            rotate_left
                            · show Act.put _ (some 7) _ = _
                              simp only [Act.put,List.setIfInBounds_toArray,List.set_cons_zero,List.set_cons_succ,i64_w,i32_w]
                              rfl
                            exact norm_ (by first | (simp only [putAll,Act.put,List.setIfInBounds_toArray,List.set_cons_zero,List.set_cons_succ];done) | (simp only [putAll,Act.put,List.setIfInBounds_toArray,List.set_cons_zero,List.set_cons_succ];rfl)) (hJ0_1 (v284,v287) _ ⟨(by (with_reducible repeat (first | apply Kd.R_alloc | apply Kd.R_drewN | apply Kd.R_drew));exact Kd.R_mono HO285.out (fun _ hk=>hk.2)),(by (with_reducible repeat (first | apply Kd.R_alloc | apply Kd.R_drewN | apply Kd.R_drew));exact Kd.R_mono HO288.out (fun _ hk=>hk.2)),(q1_ BK282),(q2_ HB GE282)⟩)
                          · skip
                            refine Kd.S_make_step (Kd.slice 3 (Kd.int .i64)) _ 25 (by rfl) (N:=8) rfl 26 _ _ rfl 2 rfl rfl Try.underlying26 (.slice none 0 0) 24 info25 rfl (by decide) (by omega) [] (ok:=fun _=>True) (okp:=fun _=>True) ⟨_,rfl,Kd.R_nil _ _ _ _ _⟩ (fun _ hk=>hk) trivial (by omega) (by omega) (Below.refl _ _) (Nat.le_refl _) ?_
                            intro v290 w10 ho11 hb hg_ hnew_
                            clear hg_ hnew_
                            (first | rw [← Ny289.out] at ho11 | (simp only [Int.reduceToNat] at ho11;rw [← Ny289.out] at ho11))
                            have n0_:=Aside0.mk (Kd.R_below (q6_ HO285) hb)
                            have n1_:=Aside0.mk (Kd.S_lower (Kd.S_new' ho11 (Kd.R_lt (q6_ HO285))) (below_size (q2_ HB GE282)))
                            have n2_:=Aside0.mk (blk_below (g:=gb282) (o:=.cells #[.slice none 0 0,.slice none 0 0,.slice none 0 0,.slice none 0 0,.slice none 0 0] 29 (0,0)) (q1_ BK282) hb)
                            have n3_:=Aside0.mk (below_step (q2_ HB GE282) hb)
                            clear HO285;clear BK282;clear HB;have HO285:=n0_;have HO291:=n1_;have BK282:=n2_;have HB:=n3_;clear n0_ n1_ n2_ n3_;clear hb ho11
                            refine hK.out _ _ trivial (fun hHeld=>?_)
                            clear hK K
                            refine norm_ (a':=?_) ?_ ?_
                            rotate_left
                            · show Act.put _ (some 8) _ = _
                              simp only [Act.put,List.setIfInBounds_toArray,List.set_cons_zero,List.set_cons_succ,i64_w,i32_w]
                              rfl
                            exact norm_ (by first | (simp only [putAll,Act.put,List.setIfInBounds_toArray,List.set_cons_zero,List.set_cons_succ];done) | (simp only [putAll,Act.put,List.setIfInBounds_toArray,List.set_cons_zero,List.set_cons_succ];rfl)) (hJ0_2 (v284,v290) _ ⟨(q6_ HO285),(by (with_reducible repeat (first | apply Kd.S_alloc | apply Kd.S_drewN | apply Kd.S_drew));exact Kd.S_mono HO291.out (fun _ hk=>hk.2)),(q1_ BK282),(q2_ HB GE282)⟩)
                          · skip
                            refine box_step ?hg (N:=3) ?hd (cs:=#[.slice none 0 0,.slice none 0 0,.slice none 0 0,.slice none 0 0,.slice none 0 0]) (t:=29) ?hr ?_;(case hd=>rfl);(case hg=>rfl);(case hr=>first | (go_simp;done) | (go_simp;rfl))
                            intro gb292 hg w10 hbox hb
                            have n0_:=Aside0.mk (Kd.R_below (q6_ HO285) hb)
                            have n1_:=Aside0.mk (blk_below (g:=gb282) (o:=.cells #[.slice none 0 0,.slice none 0 0,.slice none 0 0,.slice none 0 0,.slice none 0 0] 29 (0,0)) (q1_ BK282) hb)
                            have n2_:=Aside0.mk (below_step (q2_ HB GE282) hb)
                            have n3_:=Aside0.mk (hbox)
                            have n4_:=Aside0.mk ((by rw [hg];exact (below_size (q2_ HB GE282)) : w.heap.size ≤ gb292))
                            have n5_:=Aside0.mk ((by rw [hg];exact (below_size (q2_ HB GE282)) : w.heap.size ≤ gb292))
                            have n6_:=Aside0.mk ((by rw [hg];exact Nat.ne_of_lt (blk_lt (g:=gb282) (o:=.cells #[.slice none 0 0,.slice none 0 0,.slice none 0 0,.slice none 0 0,.slice none 0 0] 29 (0,0)) (q1_ BK282)) : gb282 ≠ gb292))
                            have n7_:=Aside0.mk ((by rw [hg];exact Nat.ne_of_gt (blk_lt (g:=gb282) (o:=.cells #[.slice none 0 0,.slice none 0 0,.slice none 0 0,.slice none 0 0,.slice none 0 0] 29 (0,0)) (q1_ BK282)) : gb292 ≠ gb282))
                            clear HO285;clear BK282;clear HB;have HO285:=n0_;have BK282:=n1_;have HB:=n2_;have BK292:=n3_;have GW292:=n4_;have GE292:=n5_;have NB282_292:=n6_;have NB292_282:=n7_;clear n0_ n1_ n2_ n3_ n4_ n5_ n6_ n7_;clear hb hbox hg
                            refine hK.out _ _ trivial (fun hHeld=>?_)
                            clear hK K
                            refine norm_ (a':=?_) ?_ ?_
                            rotate_left
                            · show Act.put _ (some 3) _ = _
                              simp only [Act.put,List.setIfInBounds_toArray,List.set_cons_zero,List.set_cons_succ,i64_w,i32_w]
                              rfl
                            exact norm_ (by first | (simp only [putAll,Act.put,List.setIfInBounds_toArray,List.set_cons_zero,List.set_cons_succ];done) | (simp only [putAll,Act.put,List.setIfInBounds_toArray,List.set_cons_zero,List.set_cons_succ];rfl)) (hJ0_4 (v284,gb292) _ ⟨(q6_ HO285),(q1_ BK282),(q1_ BK292),GW292.out,GE292.out,NB282_292.out,NB292_282.out,(q4_ HB GE282 GE292)⟩)
                      · skip
                        rintro ⟨v290,gb292⟩ w10 ⟨h0_,h1_,h2_,h3_,h4_,h5_,h6_,h7_⟩
                        have n0_ : Aside0 (Kd.S (Kd.slice 3 (Kd.int .i64)) 25 w10 w.heap.size (fun _=>True) v290 y289):=⟨h0_⟩;have n1_ : Aside0 (w10.heap[gb282]? = some (.cells #[.slice none 0 0,.slice none 0 0,.slice none 0 0,.slice none 0 0,.slice none 0 0] 29 (0,0))):=⟨h1_⟩;have n2_ : Aside0 (w10.heap[gb292]? = some (.cells #[.slice none 0 0,.slice none 0 0,.slice none 0 0,.slice none 0 0,.slice none 0 0] 29 (0,0))):=⟨h2_⟩;have n3_ : Aside0 (w.heap.size ≤ gb292):=⟨h3_⟩;have n4_ : Aside0 (w.heap.size ≤ gb292):=⟨h4_⟩;have n5_ : Aside0 (gb282 ≠ gb292):=⟨h5_⟩;have n6_ : Aside0 (gb292 ≠ gb282):=⟨h6_⟩;have n7_ : Aside0 (Below w.heap.size w w10):=⟨h7_⟩;clear BK282;clear HB;clear h0_ h1_ h2_ h3_ h4_ h5_ h6_ h7_;have HO291:=n0_;have BK282:=n1_;have BK292:=n2_;have GW292:=n3_;have GE292:=n4_;have NB282_292:=n5_;have NB292_282:=n6_;have HB:=n7_;clear n0_ n1_ n2_ n3_ n4_ n5_ n6_ n7_;have hHeld:=trivial
                        refine norm_ (a':=?_) ?_ ?_
                        rotate_left
                        · simp only [putAll,Act.put,List.setIfInBounds_toArray,List.set_cons_zero,List.set_cons_succ]
                          rfl
                        refine two_ (i:=0) (j:=1) (Ni:=some 6) (Nj:=some 7) #[true,false,true,false,true,false] #[false,true,true,false,true,false] rfl rfl rfl rfl (by kernel_rfl) (by decide) (by decide) (fun K hK=>?_) (fun K hK=>?_)
                        · skip
                          refine Kd.R_make_step (Kd.int .i64) _ 3 (by rfl) (N:=6) rfl 25 _ _ rfl 3 rfl rfl Try.underlying25 (.int .i64 0) 8 info3 rfl (by decide) (by omega) 0 (ok:=fun _=>True) (okp:=fun _=>True) rfl (fun _ hk=>hk) trivial (by omega) (by omega) (Below.refl _ _) (Nat.le_refl _) ?_
                          intro v284 w11 ho12 hb hg_ hnew_
                          clear hg_ hnew_
                          (first | rw [← Ny283.out] at ho12 | (simp only [Int.reduceToNat] at ho12;rw [← Ny283.out] at ho12))
                          have n0_:=Aside0.mk (Kd.S_elder' (q15_ HO291) (Kd.R_base ho12) hb)
                          have n1_:=Aside0.mk (Kd.R_lower ho12 (below_size (q4_ HB GE282 GE292)))
                          have n2_:=Aside0.mk (blk_below (g:=gb282) (o:=.cells #[.slice none 0 0,.slice none 0 0,.slice none 0 0,.slice none 0 0,.slice none 0 0] 29 (0,0)) (q1_ BK282) hb)
                          have n3_:=Aside0.mk (blk_below (g:=gb292) (o:=.cells #[.slice none 0 0,.slice none 0 0,.slice none 0 0,.slice none 0 0,.slice none 0 0] 29 (0,0)) (q1_ BK292) hb)
                          have n4_:=Aside0.mk (below_step (q4_ HB GE282 GE292) hb)
                          clear HO291;clear BK282;clear BK292;clear HB;have HO291:=n0_;have HO285:=n1_;have BK282:=n2_;have BK292:=n3_;have HB:=n4_;clear n0_ n1_ n2_ n3_ n4_;clear hb ho12
                          refine hK.out _ _ trivial (fun hHeld=>?_)
                          clear hK K
                          refine norm_ (a':=?_) ?_ ?_
                          rotate_left
                          · show Act.put _ (some 6) _ = _
                            simp only [Act.put,List.setIfInBounds_toArray,List.set_cons_zero,List.set_cons_succ,i64_w,i32_w]
                            rfl
                          exact norm_ (by first | (simp only [putAll,Act.put,List.setIfInBounds_toArray,List.set_cons_zero,List.set_cons_succ];done) | (simp only [putAll,Act.put,List.setIfInBounds_toArray,List.set_cons_zero,List.set_cons_succ];rfl)) (hJ0_2_4 (v284,v290,gb292) _ ⟨(q6_ HO285),(by (with_reducible repeat (first | apply Kd.S_alloc | apply Kd.S_drewN | apply Kd.S_drew));exact Kd.S_mono HO291.out (fun _ hk=>hk.2)),(q1_ BK282),(q1_ BK292),GW292.out,GE292.out,NB282_292.out,NB292_282.out,(q4_ HB GE282 GE292)⟩)
                        · skip
                          refine Kd.R_make_step (Kd.int .i64) _ 3 (by rfl) (N:=7) rfl 25 _ _ rfl 2 rfl rfl Try.underlying25 (.int .i64 0) 8 info3 rfl (by decide) (by omega) 0 (ok:=fun _=>True) (okp:=fun _=>True) rfl (fun _ hk=>hk) trivial (by omega) (by omega) (Below.refl _ _) (Nat.le_refl _) ?_
                          intro v287 w11 ho12 hb hg_ hnew_
                          clear hg_ hnew_
                          (first | rw [← Ny286.out] at ho12 | (simp only [Int.reduceToNat] at ho12;rw [← Ny286.out] at ho12))
                          have n0_:=Aside0.mk (Kd.S_elder' (q15_ HO291) (Kd.R_base ho12) hb)
                          have n1_:=Aside0.mk (Kd.R_lower ho12 (below_size (q4_ HB GE282 GE292)))
                          have n2_:=Aside0.mk (blk_below (g:=gb282) (o:=.cells #[.slice none 0 0,.slice none 0 0,.slice none 0 0,.slice none 0 0,.slice none 0 0] 29 (0,0)) (q1_ BK282) hb)
                          have n3_:=Aside0.mk (blk_below (g:=gb292) (o:=.cells #[.slice none 0 0,.slice none 0 0,.slice none 0 0,.slice none 0 0,.slice none 0 0] 29 (0,0)) (q1_ BK292) hb)
                          have n4_:=Aside0.mk (below_step (q4_ HB GE282 GE292) hb)
                          clear HO291;clear BK282;clear BK292;clear HB;have HO291:=n0_;have HO288:=n1_;have BK282:=n2_;have BK292:=n3_;have HB:=n4_;clear n0_ n1_ n2_ n3_ n4_;clear hb ho12
                          refine hK.out _ _ trivial (fun hHeld=>?_)
                          clear hK K
                          refine norm_ (a':=?_) ?_ ?_
                          rotate_left
                          · show Act.put _ (some 7) _ = _
                            simp only [Act.put,List.setIfInBounds_toArray,List.set_cons_zero,List.set_cons_succ,i64_w,i32_w]
                            rfl
                          exact norm_ (by first | (simp only [putAll,Act.put,List.setIfInBounds_toArray,List.set_cons_zero,List.set_cons_succ];done) | (simp only [putAll,Act.put,List.setIfInBounds_toArray,List.set_cons_zero,List.set_cons_succ];rfl)) (hJ1_2_4 (v287,v290,gb292) _ ⟨(q6_ HO288),(by (with_reducible repeat (first | apply Kd.S_alloc | apply Kd.S_drewN | apply Kd.S_drew));exact Kd.S_mono HO291.out (fun _ hk=>hk.2)),(q1_ BK282),(q1_ BK292),GW292.out,GE292.out,NB282_292.out,NB292_282.out,(q4_ HB GE282 GE292)⟩)
                    · skip
                      rintro ⟨v287,gb292⟩ w10 ⟨h0_,h1_,h2_,h3_,h4_,h5_,h6_,h7_⟩
                      have n0_ : Aside0 (Kd.R (Kd.int .i64) 3 w10 w.heap.size (fun _=>True) v287 y286):=⟨h0_⟩;have n1_ : Aside0 (w10.heap[gb282]? = some (.cells #[.slice none 0 0,.slice none 0 0,.slice none 0 0,.slice none 0 0,.slice none 0 0] 29 (0,0))):=⟨h1_⟩;have n2_ : Aside0 (w10.heap[gb292]? = some (.cells #[.slice none 0 0,.slice none 0 0,.slice none 0 0,.slice none 0 0,.slice none 0 0] 29 (0,0))):=⟨h2_⟩;have n3_ : Aside0 (w.heap.size ≤ gb292):=⟨h3_⟩;have n4_ : Aside0 (w.heap.size ≤ gb292):=⟨h4_⟩;have n5_ : Aside0 (gb282 ≠ gb292):=⟨h5_⟩;have n6_ : Aside0 (gb292 ≠ gb282):=⟨h6_⟩;have n7_ : Aside0 (Below w.heap.size w w10):=⟨h7_⟩;clear BK282;clear HB;clear h0_ h1_ h2_ h3_ h4_ h5_ h6_ h7_;have HO288:=n0_;have BK282:=n1_;have BK292:=n2_;have GW292:=n3_;have GE292:=n4_;have NB282_292:=n5_;have NB292_282:=n6_;have HB:=n7_;clear n0_ n1_ n2_ n3_ n4_ n5_ n6_ n7_;have hHeld:=trivial
                      refine norm_ (a':=?_) ?_ ?_
                      rotate_left
                      · simp only [putAll,Act.put,List.setIfInBounds_toArray,List.set_cons_zero,List.set_cons_succ]
                        rfl
                      refine two_ (i:=0) (j:=2) (Ni:=some 6) (Nj:=some 8) #[true,true,false,false,true,false] #[false,true,true,false,true,false] rfl rfl rfl rfl (by kernel_rfl) (by decide) (by decide) (fun K hK=>?_) (fun K hK=>?_)
                      · skip
                        refine Kd.R_make_step (Kd.int .i64) _ 3 (by rfl) (N:=6) rfl 25 _ _ rfl 3 rfl rfl Try.underlying25 (.int .i64 0) 8 info3 rfl (by decide) (by omega) 0 (ok:=fun _=>True) (okp:=fun _=>True) rfl (fun _ hk=>hk) trivial (by omega) (by omega) (Below.refl _ _) (Nat.le_refl _) ?_
                        intro v284 w11 ho12 hb hg_ hnew_
                        clear hg_ hnew_
                        (first | rw [← Ny283.out] at ho12 | (simp only [Int.reduceToNat] at ho12;rw [← Ny283.out] at ho12))
                        have n0_:=Aside0.mk (Kd.R_elder' (q6_ HO288) (Kd.R_base ho12) hb)
                        have n1_:=Aside0.mk (Kd.R_lower (Kd.R_new' ho12 (Kd.R_lt (q6_ HO288))) (below_size (q4_ HB GE282 GE292)))
                        have n2_:=Aside0.mk (blk_below (g:=gb282) (o:=.cells #[.slice none 0 0,.slice none 0 0,.slice none 0 0,.slice none 0 0,.slice none 0 0] 29 (0,0)) (q1_ BK282) hb)
                        have n3_:=Aside0.mk (blk_below (g:=gb292) (o:=.cells #[.slice none 0 0,.slice none 0 0,.slice none 0 0,.slice none 0 0,.slice none 0 0] 29 (0,0)) (q1_ BK292) hb)
                        have n4_:=Aside0.mk (below_step (q4_ HB GE282 GE292) hb)
                        clear HO288;clear BK282;clear BK292;clear HB;have HO288:=n0_;have HO285:=n1_;have BK282:=n2_;have BK292:=n3_;have HB:=n4_;clear n0_ n1_ n2_ n3_ n4_;clear hb ho12
                        refine hK.out _ _ trivial (fun hHeld=>?_)
                        clear hK K
                        refine norm_ (a':=?_) ?_ ?_
                        rotate_left
                        · show Act.put _ (some 6) _ = _
                          simp only [Act.put,List.setIfInBounds_toArray,List.set_cons_zero,List.set_cons_succ,i64_w,i32_w]
                          rfl
                        exact norm_ (by first | (simp only [putAll,Act.put,List.setIfInBounds_toArray,List.set_cons_zero,List.set_cons_succ];done) | (simp only [putAll,Act.put,List.setIfInBounds_toArray,List.set_cons_zero,List.set_cons_succ];rfl)) (hJ0_1_4 (v284,v287,gb292) _ ⟨(by (with_reducible repeat (first | apply Kd.R_alloc | apply Kd.R_drewN | apply Kd.R_drew));exact Kd.R_mono HO285.out (fun _ hk=>hk.2)),(by (with_reducible repeat (first | apply Kd.R_alloc | apply Kd.R_drewN | apply Kd.R_drew));exact Kd.R_mono HO288.out (fun _ hk=>hk.2)),(q1_ BK282),(q1_ BK292),GW292.out,GE292.out,NB282_292.out,NB292_282.out,(q4_ HB GE282 GE292)⟩)
                      · skip
                        refine Kd.S_make_step (Kd.slice 3 (Kd.int .i64)) _ 25 (by rfl) (N:=8) rfl 26 _ _ rfl 2 rfl rfl Try.underlying26 (.slice none 0 0) 24 info25 rfl (by decide) (by omega) [] (ok:=fun _=>True) (okp:=fun _=>True) ⟨_,rfl,Kd.R_nil _ _ _ _ _⟩ (fun _ hk=>hk) trivial (by omega) (by omega) (Below.refl _ _) (Nat.le_refl _) ?_
                        intro v290 w11 ho12 hb hg_ hnew_
                        clear hg_ hnew_
                        (first | rw [← Ny289.out] at ho12 | (simp only [Int.reduceToNat] at ho12;rw [← Ny289.out] at ho12))
                        have n0_:=Aside0.mk (Kd.R_below (q6_ HO288) hb)
                        have n1_:=Aside0.mk (Kd.S_lower (Kd.S_new' ho12 (Kd.R_lt (q6_ HO288))) (below_size (q4_ HB GE282 GE292)))
                        have n2_:=Aside0.mk (blk_below (g:=gb282) (o:=.cells #[.slice none 0 0,.slice none 0 0,.slice none 0 0,.slice none 0 0,.slice none 0 0] 29 (0,0)) (q1_ BK282) hb)
                        have n3_:=Aside0.mk (blk_below (g:=gb292) (o:=.cells #[.slice none 0 0,.slice none 0 0,.slice none 0 0,.slice none 0 0,.slice none 0 0] 29 (0,0)) (q1_ BK292) hb)
                        have n4_:=Aside0.mk (below_step (q4_ HB GE282 GE292) hb)
                        clear HO288;clear BK282;clear BK292;clear HB;have HO288:=n0_;have HO291:=n1_;have BK282:=n2_;have BK292:=n3_;have HB:=n4_;clear n0_ n1_ n2_ n3_ n4_;clear hb ho12
                        refine hK.out _ _ trivial (fun hHeld=>?_)
                        clear hK K
                        refine norm_ (a':=?_) ?_ ?_
                        rotate_left
                        · show Act.put _ (some 8) _ = _
                          simp only [Act.put,List.setIfInBounds_toArray,List.set_cons_zero,List.set_cons_succ,i64_w,i32_w]
                          rfl
                        exact norm_ (by first | (simp only [putAll,Act.put,List.setIfInBounds_toArray,List.set_cons_zero,List.set_cons_succ];done) | (simp only [putAll,Act.put,List.setIfInBounds_toArray,List.set_cons_zero,List.set_cons_succ];rfl)) (hJ1_2_4 (v287,v290,gb292) _ ⟨(q6_ HO288),(by (with_reducible repeat (first | apply Kd.S_alloc | apply Kd.S_drewN | apply Kd.S_drew));exact Kd.S_mono HO291.out (fun _ hk=>hk.2)),(q1_ BK282),(q1_ BK292),GW292.out,GE292.out,NB282_292.out,NB292_282.out,(q4_ HB GE282 GE292)⟩)
                  · skip
                    rintro ⟨v287,v290⟩ w11 ⟨h0_,h1_,h2_,h3_⟩
                    have n0_ : Aside0 (Kd.R (Kd.int .i64) 3 w11 w.heap.size (fun _=>True) v287 y286):=⟨h0_⟩;have n1_ : Aside0 (Kd.S (Kd.slice 3 (Kd.int .i64)) 25 w11 w.heap.size (fun k_=>some k_ ≠ (v287 : Value).ownBlock) v290 y289):=⟨h1_⟩;have n2_ : Aside0 (w11.heap[gb282]? = some (.cells #[.slice none 0 0,.slice none 0 0,.slice none 0 0,.slice none 0 0,.slice none 0 0] 29 (0,0))):=⟨h2_⟩;have n3_ : Aside0 (Below w.heap.size w w11):=⟨h3_⟩;clear BK282;clear HB;clear h0_ h1_ h2_ h3_;have HO288:=n0_;have HO291:=n1_;have BK282:=n2_;have HB:=n3_;clear n0_ n1_ n2_ n3_;have hHeld:=trivial
                    refine norm_ (a':=?_) ?_ ?_
                    rotate_left
                    · simp only [putAll,Act.put,List.setIfInBounds_toArray,List.set_cons_zero,List.set_cons_succ]
                      rfl
                    refine two_ (i:=0) (j:=4) (Ni:=some 6) (Nj:=some 3) #[true,true,true,false,false,false] #[false,true,true,false,true,false] rfl rfl rfl rfl (by kernel_rfl) (by decide) (by decide) (fun K hK=>?_) (fun K hK=>?_)
                    · skip
                      refine Kd.R_make_step (Kd.int .i64) _ 3 (by rfl) (N:=6) rfl 25 _ _ rfl 3 rfl rfl Try.underlying25 (.int .i64 0) 8 info3 rfl (by decide) (by omega) 0 (ok:=fun _=>True) (okp:=fun _=>True) rfl (fun _ hk=>hk) trivial (by omega) (by omega) (Below.refl _ _) (Nat.le_refl _) ?_
                      intro v284 w12 ho13 hb hg_ hnew_
                      clear hg_ hnew_
                      (first | rw [← Ny283.out] at ho13 | (simp only [Int.reduceToNat] at ho13;rw [← Ny283.out] at ho13))
                      have n0_:=Aside0.mk (Kd.R_elder' (q6_ HO288) (Kd.R_base ho13) hb)
                      have n1_:=Aside0.mk (Kd.S_elder' (q15_ HO291) (Kd.R_base ho13) hb)
                      have n2_:=Aside0.mk (Kd.R_lower (Kd.R_new' ho13 (Kd.R_lt (q6_ HO288))) (below_size (q2_ HB GE282)))
                      have n3_:=Aside0.mk (blk_below (g:=gb282) (o:=.cells #[.slice none 0 0,.slice none 0 0,.slice none 0 0,.slice none 0 0,.slice none 0 0] 29 (0,0)) (q1_ BK282) hb)
                      have n4_:=Aside0.mk (below_step (q2_ HB GE282) hb)
                      clear HO288;clear HO291;clear BK282;clear HB;have HO288:=n0_;have HO291:=n1_;have HO285:=n2_;have BK282:=n3_;have HB:=n4_;clear n0_ n1_ n2_ n3_ n4_;clear hb ho13;obtain ⟨Ao14,co14,eo14⟩:=Kd.S_slice HO291.out
                      (first | subst eo14 | (injection eo14 with f1_ f2_ f3_;have f4_:=f1_.symm;have f5_:=f3_.symm;clear f1_ f2_ f3_;subst f4_;subst f5_))
                      obtain ⟨Ao15,co15,eo15⟩:=Kd.R_slice HO288.out
                      (first | subst eo15 | (injection eo15 with f1_ f2_ f3_;have f4_:=f1_.symm;have f5_:=f3_.symm;clear f1_ f2_ f3_;subst f4_;subst f5_))
                      obtain ⟨Ao16,co16,eo16⟩:=Kd.R_slice HO285.out
                      (first | subst eo16 | (injection eo16 with f1_ f2_ f3_;have f4_:=f1_.symm;have f5_:=f3_.symm;clear f1_ f2_ f3_;subst f4_;subst f5_))
                      refine hK.out _ _ trivial (fun hHeld=>?_)
                      clear hK K
                      refine norm_ (a':=?_) ?_ ?_
                      rotate_left
                      · show Act.put _ (some 6) _ = _
                        simp only [Act.put,List.setIfInBounds_toArray,List.set_cons_zero,List.set_cons_succ,i64_w,i32_w]
                        rfl
                      refine pure_ (i:=3) (N:=some 9) (v:=?_) (a':=?_) #[true,true,true,true,false,false] rfl rfl (by kernel_rfl) (fun _ _ _ h=>h) (Or.inl ⟨by rfl,?_⟩) ?_ ?_
                      rotate_left
                      · intro w'
                        go_simp
                        with_reducible rfl
                      rotate_left
                      · (try simp only [Act.put,List.setIfInBounds_toArray,List.set_cons_zero,List.set_cons_succ,i64_w,i32_w])
                        rfl
                      exact norm_ (by first | (simp only [putAll,Act.put,List.setIfInBounds_toArray,List.set_cons_zero,List.set_cons_succ];done) | (simp only [putAll,Act.put,List.setIfInBounds_toArray,List.set_cons_zero,List.set_cons_succ];rfl)) (hJ0_1_2 (.slice Ao16 y283.length co16,.slice Ao15 y286.length co15,.slice Ao14 y289.length co14) _ ⟨(by (with_reducible repeat (first | apply Kd.R_alloc | apply Kd.R_drewN | apply Kd.R_drew));exact Kd.R_mono HO285.out (fun _ hk=>hk.2)),(by (with_reducible repeat (first | apply Kd.R_alloc | apply Kd.R_drewN | apply Kd.R_drew));exact Kd.R_mono HO288.out (fun _ hk=>hk.2)),(by (with_reducible repeat (first | apply Kd.S_alloc | apply Kd.S_drewN | apply Kd.S_drew));exact Kd.S_mono HO291.out (fun _ hk=>⟨hk.2,hk.1⟩)),(q1_ BK282),(q2_ HB GE282)⟩)
                    · skip
                      refine box_step ?hg (N:=3) ?hd (cs:=#[.slice none 0 0,.slice none 0 0,.slice none 0 0,.slice none 0 0,.slice none 0 0]) (t:=29) ?hr ?_;(case hd=>rfl);(case hg=>rfl);(case hr=>first | (go_simp;done) | (go_simp;rfl))
                      intro gb292 hg w12 hbox hb
                      have n0_:=Aside0.mk (Kd.R_below (q6_ HO288) hb)
                      have n1_:=Aside0.mk (Kd.S_below (q15_ HO291) hb)
                      have n2_:=Aside0.mk (blk_below (g:=gb282) (o:=.cells #[.slice none 0 0,.slice none 0 0,.slice none 0 0,.slice none 0 0,.slice none 0 0] 29 (0,0)) (q1_ BK282) hb)
                      have n3_:=Aside0.mk (below_step (q2_ HB GE282) hb)
                      have n4_:=Aside0.mk (hbox)
                      have n5_:=Aside0.mk ((by rw [hg];exact (below_size (q2_ HB GE282)) : w.heap.size ≤ gb292))
                      have n6_:=Aside0.mk ((by rw [hg];exact (below_size (q2_ HB GE282)) : w.heap.size ≤ gb292))
                      have n7_:=Aside0.mk ((by rw [hg];exact Nat.ne_of_lt (blk_lt (g:=gb282) (o:=.cells #[.slice none 0 0,.slice none 0 0,.slice none 0 0,.slice none 0 0,.slice none 0 0] 29 (0,0)) (q1_ BK282)) : gb282 ≠ gb292))
                      have n8_:=Aside0.mk ((by rw [hg];exact Nat.ne_of_gt (blk_lt (g:=gb282) (o:=.cells #[.slice none 0 0,.slice none 0 0,.slice none 0 0,.slice none 0 0,.slice none 0 0] 29 (0,0)) (q1_ BK282)) : gb292 ≠ gb282))
                      clear HO288;clear HO291;clear BK282;clear HB;have HO288:=n0_;have HO291:=n1_;have BK282:=n2_;have HB:=n3_;have BK292:=n4_;have GW292:=n5_;have GE292:=n6_;have NB282_292:=n7_;have NB292_282:=n8_;clear n0_ n1_ n2_ n3_ n4_ n5_ n6_ n7_ n8_;clear hb hbox hg
                      refine hK.out _ _ trivial (fun hHeld=>?_)
                      clear hK K
                      refine norm_ (a':=?_) ?_ ?_
                      rotate_left
                      · show Act.put _ (some 3) _ = _
                        simp only [Act.put,List.setIfInBounds_toArray,List.set_cons_zero,List.set_cons_succ,i64_w,i32_w]
                        rfl
                      exact norm_ (by first | (simp only [putAll,Act.put,List.setIfInBounds_toArray,List.set_cons_zero,List.set_cons_succ];done) | (simp only [putAll,Act.put,List.setIfInBounds_toArray,List.set_cons_zero,List.set_cons_succ];rfl)) (hJ1_2_4 (v287,v290,gb292) _ ⟨(q6_ HO288),(q15_ HO291),(q1_ BK282),(q1_ BK292),GW292.out,GE292.out,NB282_292.out,NB292_282.out,(q4_ HB GE282 GE292)⟩)
                · skip
                  rintro ⟨v284,gb292⟩ w10 ⟨h0_,h1_,h2_,h3_,h4_,h5_,h6_,h7_⟩
                  have n0_ : Aside0 (Kd.R (Kd.int .i64) 3 w10 w.heap.size (fun _=>True) v284 y283):=⟨h0_⟩;have n1_ : Aside0 (w10.heap[gb282]? = some (.cells #[.slice none 0 0,.slice none 0 0,.slice none 0 0,.slice none 0 0,.slice none 0 0] 29 (0,0))):=⟨h1_⟩;have n2_ : Aside0 (w10.heap[gb292]? = some (.cells #[.slice none 0 0,.slice none 0 0,.slice none 0 0,.slice none 0 0,.slice none 0 0] 29 (0,0))):=⟨h2_⟩;have n3_ : Aside0 (w.heap.size ≤ gb292):=⟨h3_⟩;have n4_ : Aside0 (w.heap.size ≤ gb292):=⟨h4_⟩;have n5_ : Aside0 (gb282 ≠ gb292):=⟨h5_⟩;have n6_ : Aside0 (gb292 ≠ gb282):=⟨h6_⟩;have n7_ : Aside0 (Below w.heap.size w w10):=⟨h7_⟩;clear BK282;clear HB;clear h0_ h1_ h2_ h3_ h4_ h5_ h6_ h7_;have HO285:=n0_;have BK282:=n1_;have BK292:=n2_;have GW292:=n3_;have GE292:=n4_;have NB282_292:=n5_;have NB292_282:=n6_;have HB:=n7_;clear n0_ n1_ n2_ n3_ n4_ n5_ n6_ n7_;have hHeld:=trivial
                  refine norm_ (a':=?_) ?_ ?_
                  rotate_left
                  · simp only [putAll,Act.put,List.setIfInBounds_toArray,List.set_cons_zero,List.set_cons_succ]
                    rfl
                  refine two_ (i:=1) (j:=2) (Ni:=some 7) (Nj:=some 8) #[true,true,false,false,true,false] #[true,false,true,false,true,false] rfl rfl rfl rfl (by kernel_rfl) (by decide) (by decide) (fun K hK=>?_) (fun K hK=>?_)
                  · skip
                    refine Kd.R_make_step (Kd.int .i64) _ 3 (by rfl) (N:=7) rfl 25 _ _ rfl 2 rfl rfl Try.underlying25 (.int .i64 0) 8 info3 rfl (by decide) (by omega) 0 (ok:=fun _=>True) (okp:=fun _=>True) rfl (fun _ hk=>hk) trivial (by omega) (by omega) (Below.refl _ _) (Nat.le_refl _) ?_
                    intro v287 w11 ho12 hb hg_ hnew_
                    clear hg_ hnew_
                    (first | rw [← Ny286.out] at ho12 | (simp only [Int.reduceToNat] at ho12;rw [← Ny286.out] at ho12))
                    have n0_:=Aside0.mk (Kd.R_elder' (q6_ HO285) (Kd.R_base ho12) hb)
                    have n1_:=Aside0.mk (Kd.R_lower (Kd.R_new' ho12 (Kd.R_lt (q6_ HO285))) (below_size (q4_ HB GE282 GE292)))
                    have n2_:=Aside0.mk (blk_below (g:=gb282) (o:=.cells #[.slice none 0 0,.slice none 0 0,.slice none 0 0,.slice none 0 0,.slice none 0 0] 29 (0,0)) (q1_ BK282) hb)
                    have n3_:=Aside0.mk (blk_below (g:=gb292) (o:=.cells #[.slice none 0 0,.slice none 0 0,.slice none 0 0,.slice none 0 0,.slice none 0 0] 29 (0,0)) (q1_ BK292) hb)
                    have n4_:=Aside0.mk (below_step (q4_ HB GE282 GE292) hb)
                    clear HO285;clear BK282;clear BK292;clear HB;have HO285:=n0_;have HO288:=n1_;have BK282:=n2_;have BK292:=n3_;have HB:=n4_;clear n0_ n1_ n2_ n3_ n4_;clear hb ho12
                    refine hK.out _ _ trivial (fun hHeld=>?_)
                    clear hK K
                    refine norm_ (a':=?_) ?_ ?_
                    rotate_left
                    · show Act.put _ (some 7) _ = _
                      simp only [Act.put,List.setIfInBounds_toArray,List.set_cons_zero,List.set_cons_succ,i64_w,i32_w]
                      rfl
                    exact norm_ (by first | (simp only [putAll,Act.put,List.setIfInBounds_toArray,List.set_cons_zero,List.set_cons_succ];done) | (simp only [putAll,Act.put,List.setIfInBounds_toArray,List.set_cons_zero,List.set_cons_succ];rfl)) (hJ0_1_4 (v284,v287,gb292) _ ⟨(by (with_reducible repeat (first | apply Kd.R_alloc | apply Kd.R_drewN | apply Kd.R_drew));exact Kd.R_mono HO285.out (fun _ hk=>hk.2)),(by (with_reducible repeat (first | apply Kd.R_alloc | apply Kd.R_drewN | apply Kd.R_drew));exact Kd.R_mono HO288.out (fun _ hk=>hk.2)),(q1_ BK282),(q1_ BK292),GW292.out,GE292.out,NB282_292.out,NB292_282.out,(q4_ HB GE282 GE292)⟩)
                  · skip
                    refine Kd.S_make_step (Kd.slice 3 (Kd.int .i64)) _ 25 (by rfl) (N:=8) rfl 26 _ _ rfl 2 rfl rfl Try.underlying26 (.slice none 0 0) 24 info25 rfl (by decide) (by omega) [] (ok:=fun _=>True) (okp:=fun _=>True) ⟨_,rfl,Kd.R_nil _ _ _ _ _⟩ (fun _ hk=>hk) trivial (by omega) (by omega) (Below.refl _ _) (Nat.le_refl _) ?_
                    intro v290 w11 ho12 hb hg_ hnew_
                    clear hg_ hnew_
                    (first | rw [← Ny289.out] at ho12 | (simp only [Int.reduceToNat] at ho12;rw [← Ny289.out] at ho12))
                    have n0_:=Aside0.mk (Kd.R_below (q6_ HO285) hb)
                    have n1_:=Aside0.mk (Kd.S_lower (Kd.S_new' ho12 (Kd.R_lt (q6_ HO285))) (below_size (q4_ HB GE282 GE292)))
                    have n2_:=Aside0.mk (blk_below (g:=gb282) (o:=.cells #[.slice none 0 0,.slice none 0 0,.slice none 0 0,.slice none 0 0,.slice none 0 0] 29 (0,0)) (q1_ BK282) hb)
                    have n3_:=Aside0.mk (blk_below (g:=gb292) (o:=.cells #[.slice none 0 0,.slice none 0 0,.slice none 0 0,.slice none 0 0,.slice none 0 0] 29 (0,0)) (q1_ BK292) hb)
                    have n4_:=Aside0.mk (below_step (q4_ HB GE282 GE292) hb)
                    clear HO285;clear BK282;clear BK292;clear HB;have HO285:=n0_;have HO291:=n1_;have BK282:=n2_;have BK292:=n3_;have HB:=n4_;clear n0_ n1_ n2_ n3_ n4_;clear hb ho12
                    refine hK.out _ _ trivial (fun hHeld=>?_)
                    clear hK K
                    refine norm_ (a':=?_) ?_ ?_
                    rotate_left
                    · show Act.put _ (some 8) _ = _
                      simp only [Act.put,List.setIfInBounds_toArray,List.set_cons_zero,List.set_cons_succ,i64_w,i32_w]
                      rfl
                    exact norm_ (by first | (simp only [putAll,Act.put,List.setIfInBounds_toArray,List.set_cons_zero,List.set_cons_succ];done) | (simp only [putAll,Act.put,List.setIfInBounds_toArray,List.set_cons_zero,List.set_cons_succ];rfl)) (hJ0_2_4 (v284,v290,gb292) _ ⟨(q6_ HO285),(by (with_reducible repeat (first | apply Kd.S_alloc | apply Kd.S_drewN | apply Kd.S_drew));exact Kd.S_mono HO291.out (fun _ hk=>hk.2)),(q1_ BK282),(q1_ BK292),GW292.out,GE292.out,NB282_292.out,NB292_282.out,(q4_ HB GE282 GE292)⟩)
              · skip
                rintro ⟨v284,v290⟩ w11 ⟨h0_,h1_,h2_,h3_⟩
                have n0_ : Aside0 (Kd.R (Kd.int .i64) 3 w11 w.heap.size (fun _=>True) v284 y283):=⟨h0_⟩;have n1_ : Aside0 (Kd.S (Kd.slice 3 (Kd.int .i64)) 25 w11 w.heap.size (fun k_=>some k_ ≠ (v284 : Value).ownBlock) v290 y289):=⟨h1_⟩;have n2_ : Aside0 (w11.heap[gb282]? = some (.cells #[.slice none 0 0,.slice none 0 0,.slice none 0 0,.slice none 0 0,.slice none 0 0] 29 (0,0))):=⟨h2_⟩;have n3_ : Aside0 (Below w.heap.size w w11):=⟨h3_⟩;clear BK282;clear HB;clear h0_ h1_ h2_ h3_;have HO285:=n0_;have HO291:=n1_;have BK282:=n2_;have HB:=n3_;clear n0_ n1_ n2_ n3_;have hHeld:=trivial
                refine norm_ (a':=?_) ?_ ?_
                rotate_left
                · simp only [putAll,Act.put,List.setIfInBounds_toArray,List.set_cons_zero,List.set_cons_succ]
                  rfl
                refine two_ (i:=1) (j:=4) (Ni:=some 7) (Nj:=some 3) #[true,true,true,false,false,false] #[true,false,true,false,true,false] rfl rfl rfl rfl (by kernel_rfl) (by decide) (by decide) (fun K hK=>?_) (fun K hK=>?_)
                · skip
                  refine Kd.R_make_step (Kd.int .i64) _ 3 (by rfl) (N:=7) rfl 25 _ _ rfl 2 rfl rfl Try.underlying25 (.int .i64 0) 8 info3 rfl (by decide) (by omega) 0 (ok:=fun _=>True) (okp:=fun _=>True) rfl (fun _ hk=>hk) trivial (by omega) (by omega) (Below.refl _ _) (Nat.le_refl _) ?_
                  intro v287 w12 ho13 hb hg_ hnew_
                  clear hg_ hnew_
                  (first | rw [← Ny286.out] at ho13 | (simp only [Int.reduceToNat] at ho13;rw [← Ny286.out] at ho13))
                  have n0_:=Aside0.mk (Kd.R_elder' (q6_ HO285) (Kd.R_base ho13) hb)
                  have n1_:=Aside0.mk (Kd.S_elder' (q15_ HO291) (Kd.R_base ho13) hb)
                  have n2_:=Aside0.mk (Kd.R_lower (Kd.R_new' ho13 (Kd.R_lt (q6_ HO285))) (below_size (q2_ HB GE282)))
                  have n3_:=Aside0.mk (blk_below (g:=gb282) (o:=.cells #[.slice none 0 0,.slice none 0 0,.slice none 0 0,.slice none 0 0,.slice none 0 0] 29 (0,0)) (q1_ BK282) hb)
                  have n4_:=Aside0.mk (below_step (q2_ HB GE282) hb)
                  clear HO285;clear HO291;clear BK282;clear HB;have HO285:=n0_;have HO291:=n1_;have HO288:=n2_;have BK282:=n3_;have HB:=n4_;clear n0_ n1_ n2_ n3_ n4_;clear hb ho13;obtain ⟨Ao14,co14,eo14⟩:=Kd.S_slice HO291.out
                  (first | subst eo14 | (injection eo14 with f1_ f2_ f3_;have f4_:=f1_.symm;have f5_:=f3_.symm;clear f1_ f2_ f3_;subst f4_;subst f5_))
                  obtain ⟨Ao15,co15,eo15⟩:=Kd.R_slice HO288.out
                  (first | subst eo15 | (injection eo15 with f1_ f2_ f3_;have f4_:=f1_.symm;have f5_:=f3_.symm;clear f1_ f2_ f3_;subst f4_;subst f5_))
                  obtain ⟨Ao16,co16,eo16⟩:=Kd.R_slice HO285.out
                  (first | subst eo16 | (injection eo16 with f1_ f2_ f3_;have f4_:=f1_.symm;have f5_:=f3_.symm;clear f1_ f2_ f3_;subst f4_;subst f5_))
                  refine hK.out _ _ trivial (fun hHeld=>?_)
                  clear hK K
                  refine norm_ (a':=?_) ?_ ?_
                  rotate_left
                  · show Act.put _ (some 7) _ = _
                    simp only [Act.put,List.setIfInBounds_toArray,List.set_cons_zero,List.set_cons_succ,i64_w,i32_w]
                    rfl
                  refine pure_ (i:=3) (N:=some 9) (v:=?_) (a':=?_) #[true,true,true,true,false,false] rfl rfl (by kernel_rfl) (fun _ _ _ h=>h) (Or.inl ⟨by rfl,?_⟩) ?_ ?_
                  rotate_left
                  · intro w'
                    go_simp
                    with_reducible rfl
                  rotate_left
                  · (try simp only [Act.put,List.setIfInBounds_toArray,List.set_cons_zero,List.set_cons_succ,i64_w,i32_w])
                    rfl
                  exact norm_ (by first | (simp only [putAll,Act.put,List.setIfInBounds_toArray,List.set_cons_zero,List.set_cons_succ];done) | (simp only [putAll,Act.put,List.setIfInBounds_toArray,List.set_cons_zero,List.set_cons_succ];rfl)) (hJ0_1_2 (.slice Ao16 y283.length co16,.slice Ao15 y286.length co15,.slice Ao14 y289.length co14) _ ⟨(by (with_reducible repeat (first | apply Kd.R_alloc | apply Kd.R_drewN | apply Kd.R_drew));exact Kd.R_mono HO285.out (fun _ hk=>hk.2)),(by (with_reducible repeat (first | apply Kd.R_alloc | apply Kd.R_drewN | apply Kd.R_drew));exact Kd.R_mono HO288.out (fun _ hk=>hk.2)),(q15_ HO291),(q1_ BK282),(q2_ HB GE282)⟩)
                · skip
                  refine box_step ?hg (N:=3) ?hd (cs:=#[.slice none 0 0,.slice none 0 0,.slice none 0 0,.slice none 0 0,.slice none 0 0]) (t:=29) ?hr ?_;(case hd=>rfl);(case hg=>rfl);(case hr=>first | (go_simp;done) | (go_simp;rfl))
                  intro gb292 hg w12 hbox hb
                  have n0_:=Aside0.mk (Kd.R_below (q6_ HO285) hb)
                  have n1_:=Aside0.mk (Kd.S_below (q15_ HO291) hb)
                  have n2_:=Aside0.mk (blk_below (g:=gb282) (o:=.cells #[.slice none 0 0,.slice none 0 0,.slice none 0 0,.slice none 0 0,.slice none 0 0] 29 (0,0)) (q1_ BK282) hb)
                  have n3_:=Aside0.mk (below_step (q2_ HB GE282) hb)
                  have n4_:=Aside0.mk (hbox)
                  have n5_:=Aside0.mk ((by rw [hg];exact (below_size (q2_ HB GE282)) : w.heap.size ≤ gb292))
                  have n6_:=Aside0.mk ((by rw [hg];exact (below_size (q2_ HB GE282)) : w.heap.size ≤ gb292))
                  have n7_:=Aside0.mk ((by rw [hg];exact Nat.ne_of_lt (blk_lt (g:=gb282) (o:=.cells #[.slice none 0 0,.slice none 0 0,.slice none 0 0,.slice none 0 0,.slice none 0 0] 29 (0,0)) (q1_ BK282)) : gb282 ≠ gb292))
                  have n8_:=Aside0.mk ((by rw [hg];exact Nat.ne_of_gt (blk_lt (g:=gb282) (o:=.cells #[.slice none 0 0,.slice none 0 0,.slice none 0 0,.slice none 0 0,.slice none 0 0] 29 (0,0)) (q1_ BK282)) : gb292 ≠ gb282))
                  clear HO285;clear HO291;clear BK282;clear HB;have HO285:=n0_;have HO291:=n1_;have BK282:=n2_;have HB:=n3_;have BK292:=n4_;have GW292:=n5_;have GE292:=n6_;have NB282_292:=n7_;have NB292_282:=n8_;clear n0_ n1_ n2_ n3_ n4_ n5_ n6_ n7_ n8_;clear hb hbox hg
                  refine hK.out _ _ trivial (fun hHeld=>?_)
                  clear hK K
                  refine norm_ (a':=?_) ?_ ?_
                  rotate_left
                  · show Act.put _ (some 3) _ = _
                    simp only [Act.put,List.setIfInBounds_toArray,List.set_cons_zero,List.set_cons_succ,i64_w,i32_w]
                    rfl
                  exact norm_ (by first | (simp only [putAll,Act.put,List.setIfInBounds_toArray,List.set_cons_zero,List.set_cons_succ];done) | (simp only [putAll,Act.put,List.setIfInBounds_toArray,List.set_cons_zero,List.set_cons_succ];rfl)) (hJ0_2_4 (v284,v290,gb292) _ ⟨(q6_ HO285),(q15_ HO291),(q1_ BK282),(q1_ BK292),GW292.out,GE292.out,NB282_292.out,NB292_282.out,(q4_ HB GE282 GE292)⟩)
            · skip
              rintro ⟨v284,v287⟩ w11 ⟨h0_,h1_,h2_,h3_⟩
              have n0_ : Aside0 (Kd.R (Kd.int .i64) 3 w11 w.heap.size (fun k_=>some k_ ≠ (v287 : Value).ownBlock) v284 y283):=⟨h0_⟩;have n1_ : Aside0 (Kd.R (Kd.int .i64) 3 w11 w.heap.size (fun k_=>some k_ ≠ (v284 : Value).ownBlock) v287 y286):=⟨h1_⟩;have n2_ : Aside0 (w11.heap[gb282]? = some (.cells #[.slice none 0 0,.slice none 0 0,.slice none 0 0,.slice none 0 0,.slice none 0 0] 29 (0,0))):=⟨h2_⟩;have n3_ : Aside0 (Below w.heap.size w w11):=⟨h3_⟩;clear BK282;clear HB;clear h0_ h1_ h2_ h3_;have HO285:=n0_;have HO288:=n1_;have BK282:=n2_;have HB:=n3_;clear n0_ n1_ n2_ n3_;have hHeld:=trivial
              refine norm_ (a':=?_) ?_ ?_
              rotate_left
              · simp only [putAll,Act.put,List.setIfInBounds_toArray,List.set_cons_zero,List.set_cons_succ]
                rfl
              refine two_ (i:=2) (j:=4) (Ni:=some 8) (Nj:=some 3) #[true,true,true,false,false,false] #[true,true,false,false,true,false] rfl rfl rfl rfl (by kernel_rfl) (by decide) (by decide) (fun K hK=>?_) (fun K hK=>?_)
              · skip
                refine Kd.S_make_step (Kd.slice 3 (Kd.int .i64)) _ 25 (by rfl) (N:=8) rfl 26 _ _ rfl 2 rfl rfl Try.underlying26 (.slice none 0 0) 24 info25 rfl (by decide) (by omega) [] (ok:=fun _=>True) (okp:=fun _=>True) ⟨_,rfl,Kd.R_nil _ _ _ _ _⟩ (fun _ hk=>hk) trivial (by omega) (by omega) (Below.refl _ _) (Nat.le_refl _) ?_
                intro v290 w12 ho13 hb hg_ hnew_
                clear hg_ hnew_
                (first | rw [← Ny289.out] at ho13 | (simp only [Int.reduceToNat] at ho13;rw [← Ny289.out] at ho13))
                have n0_:=Aside0.mk (Kd.R_below (q6_ HO285) hb)
                have n1_:=Aside0.mk (Kd.R_below (q6_ HO288) hb)
                have n2_:=Aside0.mk (Kd.S_lower (Kd.S_new' (Kd.S_new' ho13 (Kd.R_lt (q6_ HO285))) (Kd.R_lt (q6_ HO288))) (below_size (q2_ HB GE282)))
                have n3_:=Aside0.mk (blk_below (g:=gb282) (o:=.cells #[.slice none 0 0,.slice none 0 0,.slice none 0 0,.slice none 0 0,.slice none 0 0] 29 (0,0)) (q1_ BK282) hb)
                have n4_:=Aside0.mk (below_step (q2_ HB GE282) hb)
                clear HO285;clear HO288;clear BK282;clear HB;have HO285:=n0_;have HO288:=n1_;have HO291:=n2_;have BK282:=n3_;have HB:=n4_;clear n0_ n1_ n2_ n3_ n4_;clear hb ho13;obtain ⟨Ao14,co14,eo14⟩:=Kd.S_slice HO291.out
                (first | subst eo14 | (injection eo14 with f1_ f2_ f3_;have f4_:=f1_.symm;have f5_:=f3_.symm;clear f1_ f2_ f3_;subst f4_;subst f5_))
                obtain ⟨Ao15,co15,eo15⟩:=Kd.R_slice HO288.out
                (first | subst eo15 | (injection eo15 with f1_ f2_ f3_;have f4_:=f1_.symm;have f5_:=f3_.symm;clear f1_ f2_ f3_;subst f4_;subst f5_))
                obtain ⟨Ao16,co16,eo16⟩:=Kd.R_slice HO285.out
                (first | subst eo16 | (injection eo16 with f1_ f2_ f3_;have f4_:=f1_.symm;have f5_:=f3_.symm;clear f1_ f2_ f3_;subst f4_;subst f5_))
                refine hK.out _ _ trivial (fun hHeld=>?_)
                clear hK K
                refine norm_ (a':=?_) ?_ ?_
                rotate_left
                · show Act.put _ (some 8) _ = _
                  simp only [Act.put,List.setIfInBounds_toArray,List.set_cons_zero,List.set_cons_succ,i64_w,i32_w]
                  rfl
                refine pure_ (i:=3) (N:=some 9) (v:=?_) (a':=?_) #[true,true,true,true,false,false] rfl rfl (by kernel_rfl) (fun _ _ _ h=>h) (Or.inl ⟨by rfl,?_⟩) ?_ ?_
                rotate_left
                · intro w'
                  go_simp
                  with_reducible rfl
                rotate_left
                · (try simp only [Act.put,List.setIfInBounds_toArray,List.set_cons_zero,List.set_cons_succ,i64_w,i32_w])
                  rfl
                exact norm_ (by first | (simp only [putAll,Act.put,List.setIfInBounds_toArray,List.set_cons_zero,List.set_cons_succ];done) | (simp only [putAll,Act.put,List.setIfInBounds_toArray,List.set_cons_zero,List.set_cons_succ];rfl)) (hJ0_1_2 (.slice Ao16 y283.length co16,.slice Ao15 y286.length co15,.slice Ao14 y289.length co14) _ ⟨(q6_ HO285),(q6_ HO288),(by (with_reducible repeat (first | apply Kd.S_alloc | apply Kd.S_drewN | apply Kd.S_drew));exact Kd.S_mono HO291.out (fun _ hk=>⟨hk.1.2,hk.2⟩)),(q1_ BK282),(q2_ HB GE282)⟩)
              · skip
                refine box_step ?hg (N:=3) ?hd (cs:=#[.slice none 0 0,.slice none 0 0,.slice none 0 0,.slice none 0 0,.slice none 0 0]) (t:=29) ?hr ?_;(case hd=>rfl);(case hg=>rfl);(case hr=>first | (go_simp;done) | (go_simp;rfl))
                intro gb292 hg w12 hbox hb
                have n0_:=Aside0.mk (Kd.R_below (q6_ HO285) hb)
                have n1_:=Aside0.mk (Kd.R_below (q6_ HO288) hb)
                have n2_:=Aside0.mk (blk_below (g:=gb282) (o:=.cells #[.slice none 0 0,.slice none 0 0,.slice none 0 0,.slice none 0 0,.slice none 0 0] 29 (0,0)) (q1_ BK282) hb)
                have n3_:=Aside0.mk (below_step (q2_ HB GE282) hb)
                have n4_:=Aside0.mk (hbox)
                have n5_:=Aside0.mk ((by rw [hg];exact (below_size (q2_ HB GE282)) : w.heap.size ≤ gb292))
                have n6_:=Aside0.mk ((by rw [hg];exact (below_size (q2_ HB GE282)) : w.heap.size ≤ gb292))
                have n7_:=Aside0.mk ((by rw [hg];exact Nat.ne_of_lt (blk_lt (g:=gb282) (o:=.cells #[.slice none 0 0,.slice none 0 0,.slice none 0 0,.slice none 0 0,.slice none 0 0] 29 (0,0)) (q1_ BK282)) : gb282 ≠ gb292))
                have n8_:=Aside0.mk ((by rw [hg];exact Nat.ne_of_gt (blk_lt (g:=gb282) (o:=.cells #[.slice none 0 0,.slice none 0 0,.slice none 0 0,.slice none 0 0,.slice none 0 0] 29 (0,0)) (q1_ BK282)) : gb292 ≠ gb282))
                clear HO285;clear HO288;clear BK282;clear HB;have HO285:=n0_;have HO288:=n1_;have BK282:=n2_;have HB:=n3_;have BK292:=n4_;have GW292:=n5_;have GE292:=n6_;have NB282_292:=n7_;have NB292_282:=n8_;clear n0_ n1_ n2_ n3_ n4_ n5_ n6_ n7_ n8_;clear hb hbox hg
                refine hK.out _ _ trivial (fun hHeld=>?_)
                clear hK K
                refine norm_ (a':=?_) ?_ ?_
                rotate_left
                · show Act.put _ (some 3) _ = _
                  simp only [Act.put,List.setIfInBounds_toArray,List.set_cons_zero,List.set_cons_succ,i64_w,i32_w]
                  rfl
                exact norm_ (by first | (simp only [putAll,Act.put,List.setIfInBounds_toArray,List.set_cons_zero,List.set_cons_succ];done) | (simp only [putAll,Act.put,List.setIfInBounds_toArray,List.set_cons_zero,List.set_cons_succ];rfl)) (hJ0_1_4 (v284,v287,gb292) _ ⟨(q6_ HO285),(q6_ HO288),(q1_ BK282),(q1_ BK292),GW292.out,GE292.out,NB282_292.out,NB292_282.out,(q4_ HB GE282 GE292)⟩)
          · skip
            rintro ⟨v287,v290,gb292⟩ w12 ⟨h0_,h1_,h2_,h3_,h4_,h5_,h6_,h7_,h8_⟩
            have n0_ : Aside0 (Kd.R (Kd.int .i64) 3 w12 w.heap.size (fun _=>True) v287 y286):=⟨h0_⟩;have n1_ : Aside0 (Kd.S (Kd.slice 3 (Kd.int .i64)) 25 w12 w.heap.size (fun k_=>some k_ ≠ (v287 : Value).ownBlock) v290 y289):=⟨h1_⟩;have n2_ : Aside0 (w12.heap[gb282]? = some (.cells #[.slice none 0 0,.slice none 0 0,.slice none 0 0,.slice none 0 0,.slice none 0 0] 29 (0,0))):=⟨h2_⟩;have n3_ : Aside0 (w12.heap[gb292]? = some (.cells #[.slice none 0 0,.slice none 0 0,.slice none 0 0,.slice none 0 0,.slice none 0 0] 29 (0,0))):=⟨h3_⟩;have n4_ : Aside0 (w.heap.size ≤ gb292):=⟨h4_⟩;have n5_ : Aside0 (w.heap.size ≤ gb292):=⟨h5_⟩;have n6_ : Aside0 (gb282 ≠ gb292):=⟨h6_⟩;have n7_ : Aside0 (gb292 ≠ gb282):=⟨h7_⟩;have n8_ : Aside0 (Below w.heap.size w w12):=⟨h8_⟩;clear BK282;clear HB;clear h0_ h1_ h2_ h3_ h4_ h5_ h6_ h7_ h8_;have HO288:=n0_;have HO291:=n1_;have BK282:=n2_;have BK292:=n3_;have GW292:=n4_;have GE292:=n5_;have NB282_292:=n6_;have NB292_282:=n7_;have HB:=n8_;clear n0_ n1_ n2_ n3_ n4_ n5_ n6_ n7_ n8_;have hHeld:=trivial
            refine norm_ (a':=?_) ?_ ?_
            rotate_left
            · simp only [putAll,Act.put,List.setIfInBounds_toArray,List.set_cons_zero,List.set_cons_succ]
              rfl
            refine one_ (i:=0) (N:=some 6) #[true,true,true,false,true,false] rfl rfl (by kernel_rfl) (by decide) (fun K hK=>?_)
            refine Kd.R_make_step (Kd.int .i64) _ 3 (by rfl) (N:=6) rfl 25 _ _ rfl 3 rfl rfl Try.underlying25 (.int .i64 0) 8 info3 rfl (by decide) (by omega) 0 (ok:=fun _=>True) (okp:=fun _=>True) rfl (fun _ hk=>hk) trivial (by omega) (by omega) (Below.refl _ _) (Nat.le_refl _) ?_
            intro v284 w13 ho14 hb hg_ hnew_
            clear hg_ hnew_
            (first | rw [← Ny283.out] at ho14 | (simp only [Int.reduceToNat] at ho14;rw [← Ny283.out] at ho14))
            have n0_:=Aside0.mk (Kd.R_elder' (q6_ HO288) (Kd.R_base ho14) hb)
            have n1_:=Aside0.mk (Kd.S_elder' (q15_ HO291) (Kd.R_base ho14) hb)
            have n2_:=Aside0.mk (Kd.R_lower (Kd.R_new' ho14 (Kd.R_lt (q6_ HO288))) (below_size (q4_ HB GE282 GE292)))
            have n3_:=Aside0.mk (blk_below (g:=gb282) (o:=.cells #[.slice none 0 0,.slice none 0 0,.slice none 0 0,.slice none 0 0,.slice none 0 0] 29 (0,0)) (q1_ BK282) hb)
            have n4_:=Aside0.mk (blk_below (g:=gb292) (o:=.cells #[.slice none 0 0,.slice none 0 0,.slice none 0 0,.slice none 0 0,.slice none 0 0] 29 (0,0)) (q1_ BK292) hb)
            have n5_:=Aside0.mk (below_step (q4_ HB GE282 GE292) hb)
            clear HO288;clear HO291;clear BK282;clear BK292;clear HB;have HO288:=n0_;have HO291:=n1_;have HO285:=n2_;have BK282:=n3_;have BK292:=n4_;have HB:=n5_;clear n0_ n1_ n2_ n3_ n4_ n5_;clear hb ho14;obtain ⟨Ao15,co15,eo15⟩:=Kd.S_slice HO291.out
            (first | subst eo15 | (injection eo15 with f1_ f2_ f3_;have f4_:=f1_.symm;have f5_:=f3_.symm;clear f1_ f2_ f3_;subst f4_;subst f5_))
            obtain ⟨Ao16,co16,eo16⟩:=Kd.R_slice HO288.out
            (first | subst eo16 | (injection eo16 with f1_ f2_ f3_;have f4_:=f1_.symm;have f5_:=f3_.symm;clear f1_ f2_ f3_;subst f4_;subst f5_))
            obtain ⟨Ao17,co17,eo17⟩:=Kd.R_slice HO285.out
            (first | subst eo17 | (injection eo17 with f1_ f2_ f3_;have f4_:=f1_.symm;have f5_:=f3_.symm;clear f1_ f2_ f3_;subst f4_;subst f5_))
            refine hK.out _ _ trivial (fun hHeld=>?_)
            clear hK K
            refine norm_ (a':=?_) ?_ ?_
            rotate_left
            · show Act.put _ (some 6) _ = _
              simp only [Act.put,List.setIfInBounds_toArray,List.set_cons_zero,List.set_cons_succ,i64_w,i32_w]
              rfl
            refine pure_ (i:=3) (N:=some 9) (v:=?_) (a':=?_) #[true,true,true,true,true,false] rfl rfl (by kernel_rfl) (fun _ _ _ h=>h) (Or.inl ⟨by rfl,?_⟩) ?_ ?_
            rotate_left
            · intro w'
              go_simp
              with_reducible rfl
            rotate_left
            · (try simp only [Act.put,List.setIfInBounds_toArray,List.set_cons_zero,List.set_cons_succ,i64_w,i32_w])
              rfl
            exact norm_ (by first | (simp only [putAll,Act.put,List.setIfInBounds_toArray,List.set_cons_zero,List.set_cons_succ];done) | (simp only [putAll,Act.put,List.setIfInBounds_toArray,List.set_cons_zero,List.set_cons_succ];rfl)) (hJ0_1_2_4 (.slice Ao17 y283.length co17,.slice Ao16 y286.length co16,.slice Ao15 y289.length co15,gb292) _ ⟨(by (with_reducible repeat (first | apply Kd.R_alloc | apply Kd.R_drewN | apply Kd.R_drew));exact Kd.R_mono HO285.out (fun _ hk=>hk.2)),(by (with_reducible repeat (first | apply Kd.R_alloc | apply Kd.R_drewN | apply Kd.R_drew));exact Kd.R_mono HO288.out (fun _ hk=>hk.2)),(by (with_reducible repeat (first | apply Kd.S_alloc | apply Kd.S_drewN | apply Kd.S_drew));exact Kd.S_mono HO291.out (fun _ hk=>⟨hk.2,hk.1⟩)),(q1_ BK282),(q1_ BK292),GW292.out,GE292.out,NB282_292.out,NB292_282.out,(q4_ HB GE282 GE292)⟩)
        · skip
          rintro ⟨v284,v290,gb292⟩ w12 ⟨h0_,h1_,h2_,h3_,h4_,h5_,h6_,h7_,h8_⟩
          have n0_ : Aside0 (Kd.R (Kd.int .i64) 3 w12 w.heap.size (fun _=>True) v284 y283):=⟨h0_⟩;have n1_ : Aside0 (Kd.S (Kd.slice 3 (Kd.int .i64)) 25 w12 w.heap.size (fun k_=>some k_ ≠ (v284 : Value).ownBlock) v290 y289):=⟨h1_⟩;have n2_ : Aside0 (w12.heap[gb282]? = some (.cells #[.slice none 0 0,.slice none 0 0,.slice none 0 0,.slice none 0 0,.slice none 0 0] 29 (0,0))):=⟨h2_⟩;have n3_ : Aside0 (w12.heap[gb292]? = some (.cells #[.slice none 0 0,.slice none 0 0,.slice none 0 0,.slice none 0 0,.slice none 0 0] 29 (0,0))):=⟨h3_⟩;have n4_ : Aside0 (w.heap.size ≤ gb292):=⟨h4_⟩;have n5_ : Aside0 (w.heap.size ≤ gb292):=⟨h5_⟩;have n6_ : Aside0 (gb282 ≠ gb292):=⟨h6_⟩;have n7_ : Aside0 (gb292 ≠ gb282):=⟨h7_⟩;have n8_ : Aside0 (Below w.heap.size w w12):=⟨h8_⟩;clear BK282;clear HB;clear h0_ h1_ h2_ h3_ h4_ h5_ h6_ h7_ h8_;have HO285:=n0_;have HO291:=n1_;have BK282:=n2_;have BK292:=n3_;have GW292:=n4_;have GE292:=n5_;have NB282_292:=n6_;have NB292_282:=n7_;have HB:=n8_;clear n0_ n1_ n2_ n3_ n4_ n5_ n6_ n7_ n8_;have hHeld:=trivial
          refine norm_ (a':=?_) ?_ ?_
          rotate_left
          · simp only [putAll,Act.put,List.setIfInBounds_toArray,List.set_cons_zero,List.set_cons_succ]
            rfl
          refine one_ (i:=1) (N:=some 7) #[true,true,true,false,true,false] rfl rfl (by kernel_rfl) (by decide) (fun K hK=>?_)
          refine Kd.R_make_step (Kd.int .i64) _ 3 (by rfl) (N:=7) rfl 25 _ _ rfl 2 rfl rfl Try.underlying25 (.int .i64 0) 8 info3 rfl (by decide) (by omega) 0 (ok:=fun _=>True) (okp:=fun _=>True) rfl (fun _ hk=>hk) trivial (by omega) (by omega) (Below.refl _ _) (Nat.le_refl _) ?_
          intro v287 w13 ho14 hb hg_ hnew_
          clear hg_ hnew_
          (first | rw [← Ny286.out] at ho14 | (simp only [Int.reduceToNat] at ho14;rw [← Ny286.out] at ho14))
          have n0_:=Aside0.mk (Kd.R_elder' (q6_ HO285) (Kd.R_base ho14) hb)
          have n1_:=Aside0.mk (Kd.S_elder' (q15_ HO291) (Kd.R_base ho14) hb)
          have n2_:=Aside0.mk (Kd.R_lower (Kd.R_new' ho14 (Kd.R_lt (q6_ HO285))) (below_size (q4_ HB GE282 GE292)))
          have n3_:=Aside0.mk (blk_below (g:=gb282) (o:=.cells #[.slice none 0 0,.slice none 0 0,.slice none 0 0,.slice none 0 0,.slice none 0 0] 29 (0,0)) (q1_ BK282) hb)
          have n4_:=Aside0.mk (blk_below (g:=gb292) (o:=.cells #[.slice none 0 0,.slice none 0 0,.slice none 0 0,.slice none 0 0,.slice none 0 0] 29 (0,0)) (q1_ BK292) hb)
          have n5_:=Aside0.mk (below_step (q4_ HB GE282 GE292) hb)
          clear HO285;clear HO291;clear BK282;clear BK292;clear HB;have HO285:=n0_;have HO291:=n1_;have HO288:=n2_;have BK282:=n3_;have BK292:=n4_;have HB:=n5_;clear n0_ n1_ n2_ n3_ n4_ n5_;clear hb ho14;obtain ⟨Ao15,co15,eo15⟩:=Kd.S_slice HO291.out
          (first | subst eo15 | (injection eo15 with f1_ f2_ f3_;have f4_:=f1_.symm;have f5_:=f3_.symm;clear f1_ f2_ f3_;subst f4_;subst f5_))
          obtain ⟨Ao16,co16,eo16⟩:=Kd.R_slice HO288.out
          (first | subst eo16 | (injection eo16 with f1_ f2_ f3_;have f4_:=f1_.symm;have f5_:=f3_.symm;clear f1_ f2_ f3_;subst f4_;subst f5_))
          obtain ⟨Ao17,co17,eo17⟩:=Kd.R_slice HO285.out
          (first | subst eo17 | (injection eo17 with f1_ f2_ f3_;have f4_:=f1_.symm;have f5_:=f3_.symm;clear f1_ f2_ f3_;subst f4_;subst f5_))
          refine hK.out _ _ trivial (fun hHeld=>?_)
          clear hK K
          refine norm_ (a':=?_) ?_ ?_
          rotate_left
          · show Act.put _ (some 7) _ = _
            simp only [Act.put,List.setIfInBounds_toArray,List.set_cons_zero,List.set_cons_succ,i64_w,i32_w]
            rfl
          refine pure_ (i:=3) (N:=some 9) (v:=?_) (a':=?_) #[true,true,true,true,true,false] rfl rfl (by kernel_rfl) (fun _ _ _ h=>h) (Or.inl ⟨by rfl,?_⟩) ?_ ?_
          rotate_left
          · intro w'
            go_simp
            with_reducible rfl
          rotate_left
          · (try simp only [Act.put,List.setIfInBounds_toArray,List.set_cons_zero,List.set_cons_succ,i64_w,i32_w])
            rfl
          exact norm_ (by first | (simp only [putAll,Act.put,List.setIfInBounds_toArray,List.set_cons_zero,List.set_cons_succ];done) | (simp only [putAll,Act.put,List.setIfInBounds_toArray,List.set_cons_zero,List.set_cons_succ];rfl)) (hJ0_1_2_4 (.slice Ao17 y283.length co17,.slice Ao16 y286.length co16,.slice Ao15 y289.length co15,gb292) _ ⟨(by (with_reducible repeat (first | apply Kd.R_alloc | apply Kd.R_drewN | apply Kd.R_drew));exact Kd.R_mono HO285.out (fun _ hk=>hk.2)),(by (with_reducible repeat (first | apply Kd.R_alloc | apply Kd.R_drewN | apply Kd.R_drew));exact Kd.R_mono HO288.out (fun _ hk=>hk.2)),(q15_ HO291),(q1_ BK282),(q1_ BK292),GW292.out,GE292.out,NB282_292.out,NB292_282.out,(q4_ HB GE282 GE292)⟩)
      · skip
        rintro ⟨v284,v287,gb292⟩ w12 ⟨h0_,h1_,h2_,h3_,h4_,h5_,h6_,h7_,h8_⟩
        have n0_ : Aside0 (Kd.R (Kd.int .i64) 3 w12 w.heap.size (fun k_=>some k_ ≠ (v287 : Value).ownBlock) v284 y283):=⟨h0_⟩;have n1_ : Aside0 (Kd.R (Kd.int .i64) 3 w12 w.heap.size (fun k_=>some k_ ≠ (v284 : Value).ownBlock) v287 y286):=⟨h1_⟩;have n2_ : Aside0 (w12.heap[gb282]? = some (.cells #[.slice none 0 0,.slice none 0 0,.slice none 0 0,.slice none 0 0,.slice none 0 0] 29 (0,0))):=⟨h2_⟩;have n3_ : Aside0 (w12.heap[gb292]? = some (.cells #[.slice none 0 0,.slice none 0 0,.slice none 0 0,.slice none 0 0,.slice none 0 0] 29 (0,0))):=⟨h3_⟩;have n4_ : Aside0 (w.heap.size ≤ gb292):=⟨h4_⟩;have n5_ : Aside0 (w.heap.size ≤ gb292):=⟨h5_⟩;have n6_ : Aside0 (gb282 ≠ gb292):=⟨h6_⟩;have n7_ : Aside0 (gb292 ≠ gb282):=⟨h7_⟩;have n8_ : Aside0 (Below w.heap.size w w12):=⟨h8_⟩;clear BK282;clear HB;clear h0_ h1_ h2_ h3_ h4_ h5_ h6_ h7_ h8_;have HO285:=n0_;have HO288:=n1_;have BK282:=n2_;have BK292:=n3_;have GW292:=n4_;have GE292:=n5_;have NB282_292:=n6_;have NB292_282:=n7_;have HB:=n8_;clear n0_ n1_ n2_ n3_ n4_ n5_ n6_ n7_ n8_;have hHeld:=trivial
        refine norm_ (a':=?_) ?_ ?_
        rotate_left
        · simp only [putAll,Act.put,List.setIfInBounds_toArray,List.set_cons_zero,List.set_cons_succ]
          rfl
        refine one_ (i:=2) (N:=some 8) #[true,true,true,false,true,false] rfl rfl (by kernel_rfl) (by decide) (fun K hK=>?_)
        refine Kd.S_make_step (Kd.slice 3 (Kd.int .i64)) _ 25 (by rfl) (N:=8) rfl 26 _ _ rfl 2 rfl rfl Try.underlying26 (.slice none 0 0) 24 info25 rfl (by decide) (by omega) [] (ok:=fun _=>True) (okp:=fun _=>True) ⟨_,rfl,Kd.R_nil _ _ _ _ _⟩ (fun _ hk=>hk) trivial (by omega) (by omega) (Below.refl _ _) (Nat.le_refl _) ?_
        intro v290 w13 ho14 hb hg_ hnew_
        clear hg_ hnew_
        (first | rw [← Ny289.out] at ho14 | (simp only [Int.reduceToNat] at ho14;rw [← Ny289.out] at ho14))
        have n0_:=Aside0.mk (Kd.R_below (q6_ HO285) hb)
        have n1_:=Aside0.mk (Kd.R_below (q6_ HO288) hb)
        have n2_:=Aside0.mk (Kd.S_lower (Kd.S_new' (Kd.S_new' ho14 (Kd.R_lt (q6_ HO285))) (Kd.R_lt (q6_ HO288))) (below_size (q4_ HB GE282 GE292)))
        have n3_:=Aside0.mk (blk_below (g:=gb282) (o:=.cells #[.slice none 0 0,.slice none 0 0,.slice none 0 0,.slice none 0 0,.slice none 0 0] 29 (0,0)) (q1_ BK282) hb)
        have n4_:=Aside0.mk (blk_below (g:=gb292) (o:=.cells #[.slice none 0 0,.slice none 0 0,.slice none 0 0,.slice none 0 0,.slice none 0 0] 29 (0,0)) (q1_ BK292) hb)
        have n5_:=Aside0.mk (below_step (q4_ HB GE282 GE292) hb)
        clear HO285;clear HO288;clear BK282;clear BK292;clear HB;have HO285:=n0_;have HO288:=n1_;have HO291:=n2_;have BK282:=n3_;have BK292:=n4_;have HB:=n5_;clear n0_ n1_ n2_ n3_ n4_ n5_;clear hb ho14;obtain ⟨Ao15,co15,eo15⟩:=Kd.S_slice HO291.out
        (first | subst eo15 | (injection eo15 with f1_ f2_ f3_;have f4_:=f1_.symm;have f5_:=f3_.symm;clear f1_ f2_ f3_;subst f4_;subst f5_))
        obtain ⟨Ao16,co16,eo16⟩:=Kd.R_slice HO288.out
        (first | subst eo16 | (injection eo16 with f1_ f2_ f3_;have f4_:=f1_.symm;have f5_:=f3_.symm;clear f1_ f2_ f3_;subst f4_;subst f5_))
        obtain ⟨Ao17,co17,eo17⟩:=Kd.R_slice HO285.out
        (first | subst eo17 | (injection eo17 with f1_ f2_ f3_;have f4_:=f1_.symm;have f5_:=f3_.symm;clear f1_ f2_ f3_;subst f4_;subst f5_))
        refine hK.out _ _ trivial (fun hHeld=>?_)
        clear hK K
        refine norm_ (a':=?_) ?_ ?_
        rotate_left
        · show Act.put _ (some 8) _ = _
          simp only [Act.put,List.setIfInBounds_toArray,List.set_cons_zero,List.set_cons_succ,i64_w,i32_w]
          rfl
        refine pure_ (i:=3) (N:=some 9) (v:=?_) (a':=?_) #[true,true,true,true,true,false] rfl rfl (by kernel_rfl) (fun _ _ _ h=>h) (Or.inl ⟨by rfl,?_⟩) ?_ ?_
        rotate_left
        · intro w'
          go_simp
          with_reducible rfl
        rotate_left
        · (try simp only [Act.put,List.setIfInBounds_toArray,List.set_cons_zero,List.set_cons_succ,i64_w,i32_w])
          rfl
        exact norm_ (by first | (simp only [putAll,Act.put,List.setIfInBounds_toArray,List.set_cons_zero,List.set_cons_succ];done) | (simp only [putAll,Act.put,List.setIfInBounds_toArray,List.set_cons_zero,List.set_cons_succ];rfl)) (hJ0_1_2_4 (.slice Ao17 y283.length co17,.slice Ao16 y286.length co16,.slice Ao15 y289.length co15,gb292) _ ⟨(q6_ HO285),(q6_ HO288),(by (with_reducible repeat (first | apply Kd.S_alloc | apply Kd.S_drewN | apply Kd.S_drew));exact Kd.S_mono HO291.out (fun _ hk=>⟨hk.1.2,hk.2⟩)),(q1_ BK282),(q1_ BK292),GW292.out,GE292.out,NB282_292.out,NB292_282.out,(q4_ HB GE282 GE292)⟩)
    · skip
      rintro ⟨v284,v287,v290⟩ w16 ⟨h0_,h1_,h2_,h3_,h4_⟩
      have n0_ : Aside0 (Kd.R (Kd.int .i64) 3 w16 w.heap.size (fun k_=>some k_ ≠ (v287 : Value).ownBlock) v284 y283):=⟨h0_⟩;have n1_ : Aside0 (Kd.R (Kd.int .i64) 3 w16 w.heap.size (fun k_=>some k_ ≠ (v284 : Value).ownBlock) v287 y286):=⟨h1_⟩;have n2_ : Aside0 (Kd.S (Kd.slice 3 (Kd.int .i64)) 25 w16 w.heap.size (fun k_=>some k_ ≠ (v284 : Value).ownBlock ∧ some k_ ≠ (v287 : Value).ownBlock) v290 y289):=⟨h2_⟩;have n3_ : Aside0 (w16.heap[gb282]? = some (.cells #[.slice none 0 0,.slice none 0 0,.slice none 0 0,.slice none 0 0,.slice none 0 0] 29 (0,0))):=⟨h3_⟩;have n4_ : Aside0 (Below w.heap.size w w16):=⟨h4_⟩;clear BK282;clear HB;clear h0_ h1_ h2_ h3_ h4_;have HO285:=n0_;have HO288:=n1_;have HO291:=n2_;have BK282:=n3_;have HB:=n4_;clear n0_ n1_ n2_ n3_ n4_;have hHeld:=trivial;obtain ⟨Ao17,co17,eo17⟩:=Kd.S_slice HO291.out
      (first | subst eo17 | (injection eo17 with f1_ f2_ f3_;have f4_:=f1_.symm;have f5_:=f3_.symm;clear f1_ f2_ f3_;subst f4_;subst f5_))
      obtain ⟨Ao18,co18,eo18⟩:=Kd.R_slice HO288.out
      (first | subst eo18 | (injection eo18 with f1_ f2_ f3_;have f4_:=f1_.symm;have f5_:=f3_.symm;clear f1_ f2_ f3_;subst f4_;subst f5_))
      obtain ⟨Ao19,co19,eo19⟩:=Kd.R_slice HO285.out
      (first | subst eo19 | (injection eo19 with f1_ f2_ f3_;have f4_:=f1_.symm;have f5_:=f3_.symm;clear f1_ f2_ f3_;subst f4_;subst f5_))
      refine norm_ (a':=?_) ?_ ?_
      rotate_left
      · simp only [putAll,Act.put,List.setIfInBounds_toArray,List.set_cons_zero,List.set_cons_succ]
        rfl
      refine one_ (i:=4) (N:=some 3) #[true,true,true,true,true,false] rfl rfl (by kernel_rfl) (by decide) (fun K hK=>?_)
      refine box_step ?hg (N:=3) ?hd (cs:=#[.slice none 0 0,.slice none 0 0,.slice none 0 0,.slice none 0 0,.slice none 0 0]) (t:=29) ?hr ?_;(case hd=>rfl);(case hg=>rfl);(case hr=>first | (go_simp;done) | (go_simp;rfl))
      intro gb292 hg w20 hbox hb
      have n0_:=Aside0.mk (Kd.R_below (q6_ HO285) hb)
      have n1_:=Aside0.mk (Kd.R_below (q6_ HO288) hb)
      have n2_:=Aside0.mk (Kd.S_below (q15_ HO291) hb)
      have n3_:=Aside0.mk (blk_below (g:=gb282) (o:=.cells #[.slice none 0 0,.slice none 0 0,.slice none 0 0,.slice none 0 0,.slice none 0 0] 29 (0,0)) (q1_ BK282) hb)
      have n4_:=Aside0.mk (below_step (q2_ HB GE282) hb)
      have n5_:=Aside0.mk (hbox)
      have n6_:=Aside0.mk ((by rw [hg];exact (below_size (q2_ HB GE282)) : w.heap.size ≤ gb292))
      have n7_:=Aside0.mk ((by rw [hg];exact (below_size (q2_ HB GE282)) : w.heap.size ≤ gb292))
      have n8_:=Aside0.mk ((by rw [hg];exact Nat.ne_of_lt (blk_lt (g:=gb282) (o:=.cells #[.slice none 0 0,.slice none 0 0,.slice none 0 0,.slice none 0 0,.slice none 0 0] 29 (0,0)) (q1_ BK282)) : gb282 ≠ gb292))
      have n9_:=Aside0.mk ((by rw [hg];exact Nat.ne_of_gt (blk_lt (g:=gb282) (o:=.cells #[.slice none 0 0,.slice none 0 0,.slice none 0 0,.slice none 0 0,.slice none 0 0] 29 (0,0)) (q1_ BK282)) : gb292 ≠ gb282))
      clear HO285;clear HO288;clear HO291;clear BK282;clear HB;have HO285:=n0_;have HO288:=n1_;have HO291:=n2_;have BK282:=n3_;have HB:=n4_;have BK292:=n5_;have GW292:=n6_;have GE292:=n7_;have NB282_292:=n8_;have NB292_282:=n9_;clear n0_ n1_ n2_ n3_ n4_ n5_ n6_ n7_ n8_ n9_;clear hb hbox hg
      refine hK.out _ _ trivial (fun hHeld=>?_)
      clear hK K
      refine norm_ (a':=?_) ?_ ?_
      rotate_left
      · show Act.put _ (some 3) _ = _
        simp only [Act.put,List.setIfInBounds_toArray,List.set_cons_zero,List.set_cons_succ,i64_w,i32_w]
        rfl
      exact norm_ (by first | (simp only [putAll,Act.put,List.setIfInBounds_toArray,List.set_cons_zero,List.set_cons_succ];done) | (simp only [putAll,Act.put,List.setIfInBounds_toArray,List.set_cons_zero,List.set_cons_succ];rfl)) (hJ0_1_2_4 (.slice Ao19 y283.length co19,.slice Ao18 y286.length co18,.slice Ao17 y289.length co17,gb292) _ ⟨(q6_ HO285),(q6_ HO288),(q15_ HO291),(q1_ BK282),(q1_ BK292),GW292.out,GE292.out,NB282_292.out,NB292_282.out,(q4_ HB GE282 GE292)⟩)
  rintro ⟨v284,v287,v290,gb292⟩ w17 ⟨h0_,h1_,h2_,h3_,h4_,h5_,h6_,h7_,h8_,h9_⟩
  have n0_ : Aside0 (Kd.R (Kd.int .i64) 3 w17 w.heap.size (fun k_=>some k_ ≠ (v287 : Value).ownBlock) v284 y283):=⟨h0_⟩;have n1_ : Aside0 (Kd.R (Kd.int .i64) 3 w17 w.heap.size (fun k_=>some k_ ≠ (v284 : Value).ownBlock) v287 y286):=⟨h1_⟩;have n2_ : Aside0 (Kd.S (Kd.slice 3 (Kd.int .i64)) 25 w17 w.heap.size (fun k_=>some k_ ≠ (v284 : Value).ownBlock ∧ some k_ ≠ (v287 : Value).ownBlock) v290 y289):=⟨h2_⟩;have n3_ : Aside0 (w17.heap[gb282]? = some (.cells #[.slice none 0 0,.slice none 0 0,.slice none 0 0,.slice none 0 0,.slice none 0 0] 29 (0,0))):=⟨h3_⟩;have n4_ : Aside0 (w17.heap[gb292]? = some (.cells #[.slice none 0 0,.slice none 0 0,.slice none 0 0,.slice none 0 0,.slice none 0 0] 29 (0,0))):=⟨h4_⟩;have n5_ : Aside0 (w.heap.size ≤ gb292):=⟨h5_⟩;have n6_ : Aside0 (w.heap.size ≤ gb292):=⟨h6_⟩;have n7_ : Aside0 (gb282 ≠ gb292):=⟨h7_⟩;have n8_ : Aside0 (gb292 ≠ gb282):=⟨h8_⟩;have n9_ : Aside0 (Below w.heap.size w w17):=⟨h9_⟩;clear BK282;clear HB;clear h0_ h1_ h2_ h3_ h4_ h5_ h6_ h7_ h8_ h9_;have HO285:=n0_;have HO288:=n1_;have HO291:=n2_;have BK282:=n3_;have BK292:=n4_;have GW292:=n5_;have GE292:=n6_;have NB282_292:=n7_;have NB292_282:=n8_;have HB:=n9_;clear n0_ n1_ n2_ n3_ n4_ n5_ n6_ n7_ n8_ n9_;have hHeld:=trivial;obtain ⟨Ao18,co18,eo18⟩:=Kd.S_slice HO291.out
  (first | subst eo18 | (injection eo18 with f1_ f2_ f3_;have f4_:=f1_.symm;have f5_:=f3_.symm;clear f1_ f2_ f3_;subst f4_;subst f5_))
  obtain ⟨Ao19,co19,eo19⟩:=Kd.R_slice HO288.out
  (first | subst eo19 | (injection eo19 with f1_ f2_ f3_;have f4_:=f1_.symm;have f5_:=f3_.symm;clear f1_ f2_ f3_;subst f4_;subst f5_))
  obtain ⟨Ao20,co20,eo20⟩:=Kd.R_slice HO285.out
  (first | subst eo20 | (injection eo20 with f1_ f2_ f3_;have f4_:=f1_.symm;have f5_:=f3_.symm;clear f1_ f2_ f3_;subst f4_;subst f5_))
  refine norm_ (a':=?_) ?_ ?_
  rotate_left
  · simp only [putAll,Act.put,List.setIfInBounds_toArray,List.set_cons_zero,List.set_cons_succ]
    rfl
  refine one_ (i:=5) (N:=none) #[true,true,true,true,true,true] rfl rfl (by kernel_rfl) (by decide) (fun K hK=>?_)
  have hs21 : w17.cell? ⟨gb292,0,none⟩ = some (.slice none 0 0):=(blk_cell BK292.out 0).trans rfl;have hfs21:=blk_frozen BK292.out 0;have hns21_0:=NB282_292.out;have hms21_0:=NB292_282.out;have hs22 : w17.cell? ⟨gb292,1,none⟩ = some (.slice none 0 0):=(blk_cell BK292.out 1).trans rfl;have hfs22:=blk_frozen BK292.out 1;have hns22_0:=NB282_292.out;have hms22_0:=NB292_282.out;have hs23 : w17.cell? ⟨gb292,2,none⟩ = some (.slice none 0 0):=(blk_cell BK292.out 2).trans rfl;have hfs23:=blk_frozen BK292.out 2;have hns23_0:=NB282_292.out;have hms23_0:=NB292_282.out;have hs24 : w17.cell? ⟨gb292,3,none⟩ = some (.slice none 0 0):=(blk_cell BK292.out 3).trans rfl;have hfs24:=blk_frozen BK292.out 3;have hns24_0:=NB282_292.out;have hms24_0:=NB292_282.out;have hs25 : w17.cell? ⟨gb292,4,none⟩ = some (.slice none 0 0):=(blk_cell BK292.out 4).trans rfl;have hfs25:=blk_frozen BK292.out 4;have hns25_0:=NB282_292.out;have hms25_0:=NB292_282.out
  refine skip_ (w1:=?_) (by rfl) rfl ?_ ?_
  rotate_left
  · go_simp
    rfl
  refine hK.out _ _ trivial (fun hHeld=>?_)
  clear hK K
  refine done_ (by kernel_rfl) ?_
  try go_wp2
  have HC1:=Aside0.mk (show Kd.R (Kd.int .i64) 3 (((((w17.setCell ⟨gb292,0,none⟩ (.slice none 0 0)).setCell ⟨gb292,1,none⟩ (.slice Ao20 y283.length co20)).setCell ⟨gb292,2,none⟩ (.slice Ao19 y286.length co19)).setCell ⟨gb292,3,none⟩ (.slice Ao18 y289.length co18)).setCell ⟨gb292,4,none⟩ (.slice none 0 0)) w.heap.size (fun k_=>some k_ ≠ (.slice Ao19 y286.length co19 : Value).ownBlock) (.slice Ao20 y283.length co20) y283 from Kd.R_mono (Kd.R_far (p:=⟨gb292,4,none⟩) (Kd.R_far (p:=⟨gb292,3,none⟩) (Kd.R_far (p:=⟨gb292,2,none⟩) (Kd.R_far (p:=⟨gb292,1,none⟩) (Kd.R_far (p:=⟨gb292,0,none⟩) (Kd.R_types HO285.out BK292.out (by decide)) (fun _ hk=>hk.2) (.slice none 0 0)) (fun _ hk=>hk.2) (.slice Ao20 y283.length co20)) (fun _ hk=>hk.2) (.slice Ao19 y286.length co19)) (fun _ hk=>hk.2) (.slice Ao18 y289.length co18)) (fun _ hk=>hk.2) (.slice none 0 0)) (fun _ hk=>hk.1))
  have HR1:=Aside0.mk (show Kd.R (Kd.int .i64) 3 (((((w17.setCell ⟨gb292,0,none⟩ (.slice none 0 0)).setCell ⟨gb292,1,none⟩ (.slice Ao20 y283.length co20)).setCell ⟨gb292,2,none⟩ (.slice Ao19 y286.length co19)).setCell ⟨gb292,3,none⟩ (.slice Ao18 y289.length co18)).setCell ⟨gb292,4,none⟩ (.slice none 0 0)) w.heap.size (fun k_=>some k_ ≠ (.slice Ao20 y283.length co20 : Value).ownBlock) (.slice Ao19 y286.length co19) y286 from Kd.R_mono (Kd.R_far (p:=⟨gb292,4,none⟩) (Kd.R_far (p:=⟨gb292,3,none⟩) (Kd.R_far (p:=⟨gb292,2,none⟩) (Kd.R_far (p:=⟨gb292,1,none⟩) (Kd.R_far (p:=⟨gb292,0,none⟩) (Kd.R_types HO288.out BK292.out (by decide)) (fun _ hk=>hk.2) (.slice none 0 0)) (fun _ hk=>hk.2) (.slice Ao20 y283.length co20)) (fun _ hk=>hk.2) (.slice Ao19 y286.length co19)) (fun _ hk=>hk.2) (.slice Ao18 y289.length co18)) (fun _ hk=>hk.2) (.slice none 0 0)) (fun _ hk=>hk.1))
  have HZ1:=Aside0.mk (show Kd.S (Kd.slice 3 (Kd.int .i64)) 25 (((((w17.setCell ⟨gb292,0,none⟩ (.slice none 0 0)).setCell ⟨gb292,1,none⟩ (.slice Ao20 y283.length co20)).setCell ⟨gb292,2,none⟩ (.slice Ao19 y286.length co19)).setCell ⟨gb292,3,none⟩ (.slice Ao18 y289.length co18)).setCell ⟨gb292,4,none⟩ (.slice none 0 0)) w.heap.size (fun k_=>some k_ ≠ (.slice Ao20 y283.length co20 : Value).ownBlock ∧ some k_ ≠ (.slice Ao19 y286.length co19 : Value).ownBlock) (.slice Ao18 y289.length co18) y289 from Kd.S_mono (Kd.S_far (p:=⟨gb292,4,none⟩) (Kd.S_far (p:=⟨gb292,3,none⟩) (Kd.S_far (p:=⟨gb292,2,none⟩) (Kd.S_far (p:=⟨gb292,1,none⟩) (Kd.S_far (p:=⟨gb292,0,none⟩) (Kd.S_types HO291.out BK292.out (by decide)) (fun _ hk=>hk.2) (.slice none 0 0)) (fun _ hk=>hk.2) (.slice Ao20 y283.length co20)) (fun _ hk=>hk.2) (.slice Ao19 y286.length co19)) (fun _ hk=>hk.2) (.slice Ao18 y289.length co18)) (fun _ hk=>hk.2) (.slice none 0 0)) (fun _ hk=>hk.1))
  have b0_ : Aside0 ((((((w17.setCell ⟨gb292,0,none⟩ (.slice none 0 0)).setCell ⟨gb292,1,none⟩ (.slice Ao20 y283.length co20)).setCell ⟨gb292,2,none⟩ (.slice Ao19 y286.length co19)).setCell ⟨gb292,3,none⟩ (.slice Ao18 y289.length co18)).setCell ⟨gb292,4,none⟩ (.slice none 0 0)).heap[gb282]? = some (.cells #[.slice none 0 0,.slice none 0 0,.slice none 0 0,.slice none 0 0,.slice none 0 0] 29 (0,0))):=⟨blk_far (blk_far (blk_far (blk_far (blk_far BK282.out NB282_292.out _) NB282_292.out _) NB282_292.out _) NB282_292.out _) NB282_292.out _⟩
  have b1_ : Aside0 ((((((w17.setCell ⟨gb292,0,none⟩ (.slice none 0 0)).setCell ⟨gb292,1,none⟩ (.slice Ao20 y283.length co20)).setCell ⟨gb292,2,none⟩ (.slice Ao19 y286.length co19)).setCell ⟨gb292,3,none⟩ (.slice Ao18 y289.length co18)).setCell ⟨gb292,4,none⟩ (.slice none 0 0)).heap[gb292]? = some (.cells #[.slice none 0 0,.slice Ao20 y283.length co20,.slice Ao19 y286.length co19,.slice Ao18 y289.length co18,.slice none 0 0] 29 (0,0))):=⟨by apply bp5_4_;apply bp5_3_;apply bp5_2_;apply bp5_1_;apply bp5_0_;exact BK292.out⟩
  have b2_ : Aside0 (Below w.heap.size w (((((w17.setCell ⟨gb292,0,none⟩ (.slice none 0 0)).setCell ⟨gb292,1,none⟩ (.slice Ao20 y283.length co20)).setCell ⟨gb292,2,none⟩ (.slice Ao19 y286.length co19)).setCell ⟨gb292,3,none⟩ (.slice Ao18 y289.length co18)).setCell ⟨gb292,4,none⟩ (.slice none 0 0))):=⟨below_set (below_set (below_set (below_set (below_set HB.out GE292.out) GE292.out) GE292.out) GE292.out) GE292.out⟩
  clear HO285 HO288 HO291 BK282 BK292 HB
  generalize (((((w17.setCell ⟨gb292,0,none⟩ (.slice none 0 0)).setCell ⟨gb292,1,none⟩ (.slice Ao20 y283.length co20)).setCell ⟨gb292,2,none⟩ (.slice Ao19 y286.length co19)).setCell ⟨gb292,3,none⟩ (.slice Ao18 y289.length co18)).setCell ⟨gb292,4,none⟩ (.slice none 0 0)) = w1 at HC1 HR1 HZ1 b0_ b1_ b2_ ⊢
  have GL1:=Aside0.mk (blk_lt b1_.out)
  have GL0:=Aside0.mk (blk_lt b0_.out)
  have S1:=Aside0.mk b2_.out.size
  have NC1:=Aside0.mk (Kd.R_ne HC1.out b1_.out (by decide));have NC0:=Aside0.mk (Kd.R_ne HC1.out b0_.out (by decide));have NR1:=Aside0.mk (Kd.R_ne HR1.out b1_.out (by decide));have NR0:=Aside0.mk (Kd.R_ne HR1.out b0_.out (by decide))
  have HZ2:=Aside0.mk (Kd.S_bound (Kd.S_types (Kd.S_types HZ1.out b1_.out (by decide)) b0_.out (by decide)))
  go_loopg [12] l0.length (fun gg v12 wr=>∃ (kk : Nat) (u : Value) (V0 V1 : Nat → Value) (Q0 Q1 : Nat → Nat → Prop) (ys : List S59),kk ≤ l0.length ∧ l0.length - kk ≤ gg ∧ v12 = .int .i64 kk ∧ Aside0 (ys = (l0.take kk).map prO ∧ ys.length = kk) ∧ Aside0 (wr.ownsRow w1.heap.size 59 5 u ys.length (cellsPL ys V0 V1 ys.length)) ∧ Aside0 (KdP d wr w1.heap.size wr.heap.size u.ownBlock ys V0 V1 Q0 Q1) ∧ Aside0 (wr.heap[gb292]? = some (.cells #[u,.slice Ao20 y283.length co20,.slice Ao19 y286.length co19,.slice Ao18 y289.length co18,.slice none 0 0] 29 (0,0))) ∧ Aside0 (∀ k,k < w1.heap.size → k ≠ gb292 → wr.heap[k]? = w1.heap[k]?) ∧ Aside0 (w1.heap.size ≤ wr.heap.size) ∧ Aside0 (Below w.heap.size w wr))
  case atStart=>exact ⟨0,_,_,_,_,_,[],Nat.zero_le _,by omega,rfl,⟨rfl,rfl⟩,⟨own_nil w1 _ _ _⟩,⟨KdP.nil d w1 _ _ _⟩,b1_,⟨fun _ _ _=>rfl⟩,⟨Nat.le_refl _⟩,b2_⟩
  case round =>
    (try clear p2);clear b1_ b2_
    obtain ⟨kk,uu,V0,V1,Q0,Q1,ys,hkk,hgk,rfl,HY,HO,HK,BK,HF,HS,HB⟩:=hrel
    obtain ⟨Av,cv,eu⟩:=own_slice HO.out
    subst eu
    have HSW:=HS
    have HUB:=Aside0.mk (own_lt HO.out)
    by_cases hlt : kk < l0.length
    · have hltz : decide ((kk : Int) < (l0.length : Int)) = true:=decide_eq_true (by omega)
      have HLT:=Aside0.mk hlt
      have p1 : 0 ≤ (kk : Int):=by omega
      have q1 : (kk : Int) < (l0.length : Int):=by omega
      obtain ⟨ad,Al,cl,ea,hx,hl,hi⟩:=at_L5 HR0.out (kk : Int) p1 q1
      cases ea
      replace hx:=(HB.out.cell (World.block_lt_of_cell? w _ hx)).trans hx
      have hgx : rd_L5 l0 (kk : Int) = l0[kk]'hlt:=by simp [rd_L5,List.getD_eq_getElem?_getD,List.getElem?_eq_getElem hlt]
      have hmem : rd_L5 l0 (kk : Int) ∈ l0:=by rw [hgx];exact List.getElem_mem hlt
      have hdrop : (l0.take (kk + 1)).map prO = ys ++ [prO (rd_L5 l0 (kk : Int))]:=by rw [HY.out.1,hgx,List.take_succ_eq_append_getElem hlt,List.map_append];rfl
      generalize rd_L5 l0 (kk : Int) = x at hx hl hi hmem hdrop
      have HLX:=Aside0.mk hi
      have HCX:=Aside0.mk hl
      have HFX:=Aside0.mk (HF0.out x hmem)
      have HGR:=Aside0.mk hdrop
      simp only [Int.toNat_natCast] at hx
      clear hi hl hgx hmem hdrop
      replace p1:=eq_true p1
      replace q1:=eq_true q1
      obtain ⟨hcz_0,hcz_1,hcz_2,hcz_3,hcz_4,hfz_0,hfz_1,hfz_2,hfz_3,hfz_4⟩:=bz5_ BK
      try go_wp2
      refine start_ (n:=10) (S:=fun w'=>w'.cell? ⟨gb292,0,none⟩ = some (.slice Av ys.length cv) ∧ w'.cell? ⟨gb292,1,none⟩ = some (.slice Ao20 y283.length co20) ∧ w'.cell? ⟨gb292,2,none⟩ = some (.slice Ao19 y286.length co19) ∧ w'.cell? ⟨gb292,3,none⟩ = some (.slice Ao18 y289.length co18) ∧ w'.cell? ⟨gb292,4,none⟩ = some (.slice none 0 0)) (ds:=[9]) #[false,false,false,false,false,false,false,false,false,false] (by kernel_rfl) rfl rfl ⟨(blk_cell BK.out 0).trans rfl,(blk_cell BK.out 1).trans rfl,(blk_cell BK.out 2).trans rfl,(blk_cell BK.out 3).trans rfl,(blk_cell BK.out 4).trans rfl⟩ (fun hHeld=>?_);refine with_tabW impl_opened.xtab5 impl_opened.xbits5 (fun HT_ HW_=>?_)
      have n0_:=Aside0.mk (pw_own_below HO.out (below_drew1 (Below.refl _ _)));have n1_:=Aside0.mk (HK.out.frame (W':=wr.drew) (fun _ _ _ _=>rfl));have n2_:=Aside0.mk (blk_drew BK.out);have n3_:=Aside0.mk (below_drew1 HB.out);have n4_:=Aside0.mk (show ∀ k,k < w1.heap.size → k ≠ gb292 → wr.drew.heap[k]? = w1.heap[k]? from HF.out);have n5_:=Aside0.mk (show w1.heap.size ≤ wr.drew.heap.size from HS.out);have n6_:=Aside0.mk (show wr.heap.size ≤ wr.drew.heap.size from Nat.le_refl _);clear HO HK BK HB HF HS;have HO:=n0_;have HK:=n1_;have BK:=n2_;have HB:=n3_;have HF:=n4_;have HS:=n5_;have HZ:=n6_;clear n0_ n1_ n2_ n3_ n4_ n5_ n6_
      generalize wr.drew = w33 at HO HK BK HB HF HS HZ hHeld ⊢
      refine pure_ (i:=0) (N:=some 16) (v:=?_) (a':=?_) #[true,false,false,false,false,false,false,false,false,false] rfl rfl (any_of HT_.out (by kernel_rfl)) (fun _ _ _ h=>h) (Or.inl ⟨by rfl,?_⟩) ?_ ?_
      rotate_left
      · intro w'
        go_simp
        with_reducible rfl
      rotate_left
      · (try simp only [Act.put,List.setIfInBounds_toArray,List.set_cons_zero,List.set_cons_succ,i64_w,i32_w])
        rfl
      refine pure_ (i:=3) (N:=some 19) (v:=?_) (a':=?_) #[true,false,false,true,false,false,false,false,false,false] rfl rfl (any_of HT_.out (by kernel_rfl)) (fun _ _ _ h=>h) (Or.inl ⟨by rfl,?_⟩) ?_ ?_
      rotate_left
      · intro w'
        go_simp
        with_reducible rfl
      rotate_left
      · (try simp only [Act.put,List.setIfInBounds_toArray,List.set_cons_zero,List.set_cons_succ,i64_w,i32_w])
        rfl
      refine take_ (i:=1) (N:=some 17) (v:=?_) (a':=?_) #[true,true,false,true,false,false,false,false,false,false] rfl rfl (take_ofW HT_.out HW_.out (by kernel_rfl)) (fun _ _ _ h=>h) (Or.inl ⟨by rfl,?_⟩) hHeld ?_ ?_
      rotate_left
      · rintro w' ⟨s0,s1,s2,s3,s4⟩
        go_simp
        with_reducible rfl
      rotate_left
      · (try simp only [Act.put,List.setIfInBounds_toArray,List.set_cons_zero,List.set_cons_succ,i64_w,i32_w])
        rfl
      refine join_ (σ:=Value × Value) 5 #[true,true,true,true,true,false,false,false,false,false] (fun s_=>[(18,s_.1),(20,s_.2)]) (fun s_ w'=>(w'.cell? ⟨gb292,0,none⟩ = some (.slice Av ys.length cv) ∧ w'.cell? ⟨gb292,1,none⟩ = some (.slice Ao20 y283.length co20) ∧ w'.cell? ⟨gb292,2,none⟩ = some (.slice Ao19 y286.length co19) ∧ w'.cell? ⟨gb292,3,none⟩ = some (.slice Ao18 y289.length co18) ∧ w'.cell? ⟨gb292,4,none⟩ = some (.slice none 0 0)) ∧ (∃ (T B : Nat → Prop),(∀ k,T k → wr.heap.size ≤ k ∧ k < w'.heap.size) ∧ (∀ k,B k → wr.heap.size ≤ k ∧ k < w'.heap.size) ∧ (∀ k,T k → ¬ B k) ∧ RowI w' T s_.1 (List.replicate 3 0) ∧ Tr d w' B s_.2 x) ∧ (w'.ownsRow w1.heap.size 59 5 (.slice Av ys.length cv) ys.length (cellsPL ys V0 V1 ys.length)) ∧ (KdP d w' w1.heap.size wr.heap.size (Value.slice Av ys.length cv).ownBlock ys V0 V1 Q0 Q1) ∧ (w'.heap[gb292]? = some (.cells #[.slice Av ys.length cv,.slice Ao20 y283.length co20,.slice Ao19 y286.length co19,.slice Ao18 y289.length co18,.slice none 0 0] 29 (0,0))) ∧ (∀ k,k < w1.heap.size → k ≠ gb292 → w'.heap[k]? = w1.heap[k]?) ∧ (wr.heap.size ≤ w'.heap.size) ∧ (Below w.heap.size w w')) ?_ ?_
      rotate_left
      · intro hCont
        refine two_ (i:=2) (j:=4) (Ni:=some 18) (Nj:=some 20) #[true,true,true,true,false,false,false,false,false,false] #[true,true,false,true,true,false,false,false,false,false] rfl rfl rfl rfl (two_of HT_.out (by kernel_rfl)) (by decide) (by decide) (fun K hK=>?_) (fun K hK=>?_)
        · skip
          refine Kd.R_make_step (Kd.int .i64) _ 3 (by rfl) (N:=18) rfl 25 _ _ rfl 3 rfl rfl Try.underlying25 (.int .i64 0) 8 info3 rfl (by decide) (by omega) 0 (ok:=fun _=>True) (okp:=fun _=>True) rfl (fun _ hk=>hk) trivial (by omega) (by omega) (Below.refl _ _) (Nat.le_refl _) ?_
          intro v295 wm ho35 hb hg_ hnew_
          (try simp only [Int.reduceToNat] at ho35)
          have hbb:=hb
          have n0_:=Aside0.mk (pw_own_below HO.out hb);have n1_:=Aside0.mk (HK.out.frame (fun k _ hk _=>hb.block k (Nat.lt_of_lt_of_le hk HZ.out)));have n2_:=Aside0.mk (blk_below BK.out hb);have n3_:=Aside0.mk (below_step HB.out hb);have n4_:=Aside0.mk (fun k (hk : k < w1.heap.size) (hn : k ≠ gb292)=>(hb.block k (Nat.lt_of_lt_of_le hk HS.out)).trans (HF.out k hk hn));have n5_:=Aside0.mk (Nat.le_trans HS.out hb.size);have n6_:=Aside0.mk (Nat.le_trans HZ.out hb.size)
          have HG0:=Aside0.mk (rowI_of_R ho35);have HG1:=Aside0.mk (Kd.R_base ho35);have HG2:=Aside0.mk (Kd.R_lt ho35)
          clear HO HK BK HB HF HS hb hg_ hnew_ ho35 hbb
          have HZ0:=HZ;clear HZ;have HO:=n0_;have HK:=n1_;have BK:=n2_;have HB:=n3_;have HF:=n4_;have HS:=n5_;have HZ:=n6_;clear n0_ n1_ n2_ n3_ n4_ n5_ n6_
          refine hK.out _ _ ⟨(blk_cell BK.out 0).trans rfl,(blk_cell BK.out 1).trans rfl,(blk_cell BK.out 2).trans rfl,(blk_cell BK.out 3).trans rfl,(blk_cell BK.out 4).trans rfl⟩ (fun hHeld=>?_)
          clear hK K
          refine norm_ (a':=?_) ?_ ?_
          rotate_left
          · show Act.put _ (some 18) _ = _
            simp only [Act.put,List.setIfInBounds_toArray,List.set_cons_zero,List.set_cons_succ,i64_w,i32_w]
            rfl
          refine one_ (i:=4) (N:=some 20) #[true,true,true,true,true,false,false,false,false,false] rfl rfl (one_of HT_.out (by kernel_rfl)) (by decide) (fun K hK=>?_)
          refine goes_ Try.func41 (by kernel_rfl) rfl #[.slice Al x.length cl] (by rfl) rfl rfl (by (try simp only [List.map_toArray,List.map_cons,List.map_nil]);first | done | rfl | (simp only [List.length_drop,List.length_take];rfl)) ?_
          with_reducible refine (copy_at d _ _ x _ ?side1 ?side2 HFX.out).mono ?_
          (case side1=>exact Kd.C_below HLX.out HB.out)
          (case side2=>exact HCX.out)
          rintro e wt ⟨vt,rfl,ht,hb⟩
          refine ⟨_,rfl,?_⟩
          have n0_:=Aside0.mk (pw_own_below HO.out hb);have n1_:=Aside0.mk (HK.out.frame (fun k _ hk _=>hb.block k (Nat.lt_of_lt_of_le hk HZ.out)));have n2_:=Aside0.mk (blk_below BK.out hb);have n3_:=Aside0.mk (below_step HB.out hb);have n4_:=Aside0.mk (fun k (hk : k < w1.heap.size) (hn : k ≠ gb292)=>(hb.block k (Nat.lt_of_lt_of_le hk HS.out)).trans (HF.out k hk hn));have n5_:=Aside0.mk (Nat.le_trans HS.out hb.size);have n6_:=Aside0.mk (Nat.le_trans HZ.out hb.size)
          have HT:=Aside0.mk ht;have HM:=Aside0.mk hb.size
          have HG3:=Aside0.mk (HG0.out.frame (fun k hk=>hb.block k (HG2.out k hk.symm)));clear HG0;have HG0:=HG3;clear HG3
          clear HO HK BK HB HF HS hb ht
          have HZ1_:=HZ;clear HZ;have HO:=n0_;have HK:=n1_;have BK:=n2_;have HB:=n3_;have HF:=n4_;have HS:=n5_;have HZ:=n6_;clear n0_ n1_ n2_ n3_ n4_ n5_ n6_
          obtain ⟨Aa,ca,ea⟩:=HG0.out.slice;subst ea;obtain ⟨Ab,cb,eb⟩:=HT.out.slice;subst eb
          refine hK.out _ _ ⟨(blk_cell BK.out 0).trans rfl,(blk_cell BK.out 1).trans rfl,(blk_cell BK.out 2).trans rfl,(blk_cell BK.out 3).trans rfl,(blk_cell BK.out 4).trans rfl⟩ (fun hHeld=>?_)
          clear hK K
          refine norm_ (a':=?_) ?_ ?_
          rotate_left
          · show Act.put _ (some 20) _ = _
            simp only [Act.put,List.setIfInBounds_toArray,List.set_cons_zero,List.set_cons_succ,i64_w,i32_w]
            rfl
          refine norm_ (by simp only [putAll,Act.put,List.setIfInBounds_toArray,List.set_cons_zero,List.set_cons_succ]) (hCont (.slice Aa (List.replicate 3 (0 : Int)).length ca,.slice Ab x.length cb) _ ⟨hHeld,⟨_,_,?_,?_,?_,HG0.out,HT.out⟩,HO.out,HK.out,BK.out,HF.out,HZ.out,HB.out⟩)
          · intro k hk;have a1:=HG1.out k hk.symm;have a2:=HG2.out k hk.symm;have a3:=HM.out;have a4:=HZ0.out;have a5:=HZ1_.out;omega
          · intro k hk;have a3:=HM.out;have a4:=HZ0.out;have a5:=HZ1_.out;omega
          · intro k hk hk2;have a1:=HG1.out k hk.symm;have a2:=HG2.out k hk.symm;omega
        · skip
          refine goes_ Try.func41 (by kernel_rfl) rfl #[.slice Al x.length cl] (by rfl) rfl rfl (by (try simp only [List.map_toArray,List.map_cons,List.map_nil]);first | done | rfl | (simp only [List.length_drop,List.length_take];rfl)) ?_
          with_reducible refine (copy_at d _ _ x _ ?side1 ?side2 HFX.out).mono ?_
          (case side1=>exact Kd.C_below HLX.out HB.out)
          (case side2=>exact HCX.out)
          rintro e wt ⟨vt,rfl,ht,hb⟩
          refine ⟨_,rfl,?_⟩
          have n0_:=Aside0.mk (pw_own_below HO.out hb);have n1_:=Aside0.mk (HK.out.frame (fun k _ hk _=>hb.block k (Nat.lt_of_lt_of_le hk HZ.out)));have n2_:=Aside0.mk (blk_below BK.out hb);have n3_:=Aside0.mk (below_step HB.out hb);have n4_:=Aside0.mk (fun k (hk : k < w1.heap.size) (hn : k ≠ gb292)=>(hb.block k (Nat.lt_of_lt_of_le hk HS.out)).trans (HF.out k hk hn));have n5_:=Aside0.mk (Nat.le_trans HS.out hb.size);have n6_:=Aside0.mk (Nat.le_trans HZ.out hb.size)
          have HT:=Aside0.mk ht;have HM:=Aside0.mk hb.size
          clear HO HK BK HB HF HS hb ht
          have HZ1_:=HZ;clear HZ;have HO:=n0_;have HK:=n1_;have BK:=n2_;have HB:=n3_;have HF:=n4_;have HS:=n5_;have HZ:=n6_;clear n0_ n1_ n2_ n3_ n4_ n5_ n6_
          refine hK.out _ _ ⟨(blk_cell BK.out 0).trans rfl,(blk_cell BK.out 1).trans rfl,(blk_cell BK.out 2).trans rfl,(blk_cell BK.out 3).trans rfl,(blk_cell BK.out 4).trans rfl⟩ (fun hHeld=>?_)
          clear hK K
          refine norm_ (a':=?_) ?_ ?_
          rotate_left
          · show Act.put _ (some 20) _ = _
            simp only [Act.put,List.setIfInBounds_toArray,List.set_cons_zero,List.set_cons_succ,i64_w,i32_w]
            rfl
          refine one_ (i:=2) (N:=some 18) #[true,true,true,true,true,false,false,false,false,false] rfl rfl (one_of HT_.out (by kernel_rfl)) (by decide) (fun K hK=>?_)
          refine Kd.R_make_step (Kd.int .i64) _ 3 (by rfl) (N:=18) rfl 25 _ _ rfl 3 rfl rfl Try.underlying25 (.int .i64 0) 8 info3 rfl (by decide) (by omega) 0 (ok:=fun _=>True) (okp:=fun _=>True) rfl (fun _ hk=>hk) trivial (by omega) (by omega) (Below.refl _ _) (Nat.le_refl _) ?_
          intro v295 wm ho35 hb hg_ hnew_
          (try simp only [Int.reduceToNat] at ho35)
          have hbb:=hb
          have n0_:=Aside0.mk (pw_own_below HO.out hb);have n1_:=Aside0.mk (HK.out.frame (fun k _ hk _=>hb.block k (Nat.lt_of_lt_of_le hk HZ.out)));have n2_:=Aside0.mk (blk_below BK.out hb);have n3_:=Aside0.mk (below_step HB.out hb);have n4_:=Aside0.mk (fun k (hk : k < w1.heap.size) (hn : k ≠ gb292)=>(hb.block k (Nat.lt_of_lt_of_le hk HS.out)).trans (HF.out k hk hn));have n5_:=Aside0.mk (Nat.le_trans HS.out hb.size);have n6_:=Aside0.mk (Nat.le_trans HZ.out hb.size)
          have HG0:=Aside0.mk (rowI_of_R ho35);have HG1:=Aside0.mk (Kd.R_base ho35);have HG2:=Aside0.mk (Kd.R_lt ho35)
          have HT1:=Aside0.mk (Tr.frT d _ _ _ _ _ HT.out (fun k hk=>hb.block k hk.2));have HM:=Aside0.mk hb.size;clear HT;have HT:=HT1;clear HT1
          clear HO HK BK HB HF HS hb hg_ hnew_ ho35 hbb
          have HZ0:=HZ;clear HZ;have HO:=n0_;have HK:=n1_;have BK:=n2_;have HB:=n3_;have HF:=n4_;have HS:=n5_;have HZ:=n6_;clear n0_ n1_ n2_ n3_ n4_ n5_ n6_
          obtain ⟨Aa,ca,ea⟩:=HG0.out.slice;subst ea;obtain ⟨Ab,cb,eb⟩:=HT.out.slice;subst eb
          refine hK.out _ _ ⟨(blk_cell BK.out 0).trans rfl,(blk_cell BK.out 1).trans rfl,(blk_cell BK.out 2).trans rfl,(blk_cell BK.out 3).trans rfl,(blk_cell BK.out 4).trans rfl⟩ (fun hHeld=>?_)
          clear hK K
          refine norm_ (a':=?_) ?_ ?_
          rotate_left
          · show Act.put _ (some 18) _ = _
            simp only [Act.put,List.setIfInBounds_toArray,List.set_cons_zero,List.set_cons_succ,i64_w,i32_w]
            rfl
          refine norm_ (by simp only [putAll,Act.put,List.setIfInBounds_toArray,List.set_cons_zero,List.set_cons_succ]) (hCont (.slice Aa (List.replicate 3 (0 : Int)).length ca,.slice Ab x.length cb) _ ⟨hHeld,⟨_,_,?_,?_,?_,HG0.out,HT.out⟩,HO.out,HK.out,BK.out,HF.out,HZ.out,HB.out⟩)
          · intro k hk;have a1:=HG1.out k hk.symm;have a2:=HG2.out k hk.symm;have a3:=HM.out;have a4:=HZ0.out;have a5:=HZ1_.out;omega
          · intro k hk;have a3:=HM.out;have a4:=HZ0.out;have a5:=HZ1_.out;omega
          · intro k hk hk2;have a1:=HG1.out k hk.symm;have a2:=HG2.out k hk.symm;omega
      rintro ⟨v295,v298⟩ w39 ⟨hS_,⟨T,B,hT,hB,hTB,hg,ht⟩,h1_,h2_,h3_,h4_,h5_,h6_⟩
      have HTT:=Aside0.mk hT;have HBB:=Aside0.mk hB;have HTB:=Aside0.mk hTB;have HG:=Aside0.mk hg;have HT:=Aside0.mk ht;have n0_:=Aside0.mk h1_;have n1_:=Aside0.mk h2_;have n2_:=Aside0.mk h3_;have n3_:=Aside0.mk h4_;have n4_:=Aside0.mk h5_;have n5_:=Aside0.mk h6_;clear hT hB hTB hg ht h1_ h2_ h3_ h4_ h5_ h6_ HO HK BK HF HZ HS HB;have HO:=n0_;have HK:=n1_;have BK:=n2_;have HF:=n3_;have HZ:=n4_;have HB:=n5_;clear n0_ n1_ n2_ n3_ n4_ n5_;have hHeld:=hS_;clear hS_
      obtain ⟨Aa,ca,ea⟩:=HG.out.slice;subst ea;obtain ⟨Ab,cb,eb⟩:=HT.out.slice;subst eb
      refine norm_ (a':=?_) ?_ ?_
      rotate_left
      · simp only [putAll,Act.put,List.setIfInBounds_toArray,List.set_cons_zero,List.set_cons_succ]
        rfl
      refine pure_ (i:=5) (N:=some 21) (v:=?_) (a':=?_) #[true,true,true,true,true,true,false,false,false,false] rfl rfl (any_of HT_.out (by kernel_rfl)) (fun _ _ _ h=>h) (Or.inl ⟨by rfl,?_⟩) ?_ ?_
      rotate_left
      · intro w'
        go_simp
        with_reducible rfl
      rotate_left
      · (try simp only [Act.put,List.setIfInBounds_toArray,List.set_cons_zero,List.set_cons_succ,i64_w,i32_w])
        rfl
      refine one_ (i:=6) (N:=some 22) #[true,true,true,true,true,true,true,false,false,false] rfl rfl (one_of HT_.out (by kernel_rfl)) (by decide) (fun K hK=>?_)
      refine value_ (w1:=?_) (v:=?_) (by rfl) rfl ?_ ?_
      rotate_left 2
      · go_simp
        constructor
        · rfl
        · rfl
      refine hK.out _ _ ⟨(blk_cell (blk_alloc BK.out _) 0).trans rfl,(blk_cell (blk_alloc BK.out _) 1).trans rfl,(blk_cell (blk_alloc BK.out _) 2).trans rfl,(blk_cell (blk_alloc BK.out _) 3).trans rfl,(blk_cell (blk_alloc BK.out _) 4).trans rfl⟩ (fun hHeld=>?_)
      clear hK K
      refine norm_ (a':=?_) ?_ ?_
      rotate_left
      · show Act.put _ (some 22) _ = _
        simp only [Act.put,List.setIfInBounds_toArray,List.set_cons_zero,List.set_cons_succ,i64_w,i32_w]
        rfl
      refine one_ (i:=7) (N:=some 23) #[true,true,true,true,true,true,true,true,false,false] rfl rfl (one_of HT_.out (by kernel_rfl)) (by decide) (fun K hK=>?_)
      have HSZ:=Aside0.mk (show w1.heap.size ≤ w39.heap.size from Nat.le_trans HSW.out HZ.out)
      refine step_append_cells (w0:=w39) w1.heap.size (by rfl) (.tmp 17) (.tmp 22) 24 59 (.agg #[(.slice none 0 0),(.slice none 0 0),(.int .i64 0),(.int .i64 0),(.int .i64 0)]) 5 72 rfl Try.underlying24 info59 rfl (by decide) (by decide) (.slice Av ys.length cv) ys.length (cellsPL ys V0 V1 ys.length) (cellsP (prO x) (.slice Aa (List.replicate 3 (0 : Int)).length ca) (.slice Ab x.length cb)) rfl rfl rfl ?aC HO.out (Below.refl w1.heap.size w39) HSZ.out ?aL ?_
      (case aC=>simp [cellsP,prO,Value.oneCell'])
      (case aL=>have:=HMY.out;have:=HLT.out;have:=HY.out.2;omega)
      intro v301 w42 ho hb hg hat
      have n0_:=Aside0.mk ho;have n1_:=Aside0.mk (HB.out.grown hg HB.out.size (fun k hk=>Nat.le_trans S1.out (own_base HO.out k hk)));have n2_:=Aside0.mk (blk_grown BK.out hg (own_ne HO.out BK.out (by decide)));have n3_:=Aside0.mk hg;have n4_:=Aside0.mk hat;have HO9:=Aside0.mk (own_base HO.out)
      clear ho hb hg hat HO BK;have HO:=n0_;have HBn:=n1_;have BK:=n2_;have HGN:=n3_;have HAT:=n4_;clear n0_ n1_ n2_ n3_ n4_;obtain ⟨A1,c1,e1⟩:=own_slice HO.out;subst e1
      refine hK.out _ _ ⟨(blk_cell BK.out 0).trans rfl,(blk_cell BK.out 1).trans rfl,(blk_cell BK.out 2).trans rfl,(blk_cell BK.out 3).trans rfl,(blk_cell BK.out 4).trans rfl⟩ (fun hHeld=>?_)
      clear hK K
      refine norm_ (a':=?_) ?_ ?_
      rotate_left
      · show Act.put _ (some 23) _ = _
        simp only [Act.put,List.setIfInBounds_toArray,List.set_cons_zero,List.set_cons_succ,i64_w,i32_w]
        rfl
      refine pure_ (i:=8) (N:=some 24) (v:=?_) (a':=?_) #[true,true,true,true,true,true,true,true,true,false] rfl rfl (any_of HT_.out (by kernel_rfl)) (fun _ _ _ h=>h) (Or.inl ⟨by rfl,?_⟩) ?_ ?_
      rotate_left
      · intro w'
        go_simp
        with_reducible rfl
      rotate_left
      · (try simp only [Act.put,List.setIfInBounds_toArray,List.set_cons_zero,List.set_cons_succ,i64_w,i32_w])
        rfl
      refine last_ (i:=9) (N:=none) #[true,true,true,true,true,true,true,true,true,true] rfl rfl (one_of HT_.out (by kernel_rfl)) (by decide) (fun K hK=>?_)
      have hs44 : w42.cell? ⟨gb292,0,none⟩ = some (.slice Av ys.length cv):=(blk_cell BK.out 0).trans rfl;have hfs44:=blk_frozen BK.out 0
      refine skip_ (w1:=?_) (by rfl) rfl ?_ ?_
      rotate_left
      · go_simp
        rfl
      refine hK.out _ _ ?_
      clear hK K
      refine done_ (done_of HT_.out (by kernel_rfl)) ?_
      have fr : (∀ k,k ≠ gb292 → (w42.setCell ⟨gb292,0,none⟩ (.slice A1 (ys.length + 1) c1)).heap[k]? = w42.heap[k]?) ∧ (w42.setCell ⟨gb292,0,none⟩ (.slice A1 (ys.length + 1) c1)).heap.size = w42.heap.size:=⟨fun k hk=>Below.heap_setCell w42 ⟨gb292,0,none⟩ _ k hk,by simp [World.setCell]⟩
      have FR:=Aside0.mk fr
      clear fr
      go_wp2
      go_roundg (l0.length - (kk + 1))
      case measure=>omega
      case rel =>
        have s0:=HSW.out
        have s1:=HZ.out
        have s2:=HGN.out.size
        have s3:=FR.out.2
        have g1:=GL1.out
        have hne : ∀ k,wr.heap.size ≤ k → some k ≠ (Value.slice Av ys.length cv).ownBlock:=fun k hk z=>by
          have:=HUB.out k z.symm
          omega
        have k0:=HK.out.frame (W':=w42) (fun k _ hk hn=>HGN.out.block k (by omega) hn)
        have t0:=HG.out.frame (W':=w42) (fun k hk=>HGN.out.block k (HTT.out k hk).2 (hne k (HTT.out k hk).1))
        have t1:=Tr.frT d _ w42 _ _ _ HT.out (fun k hk=>HGN.out.block k (HBB.out k hk).2 (hne k (HBB.out k hk).1))
        have k1:=k0.snoc (x:=prO x) (Nat.le_refl _) s1 s0 HTT.out HBB.out HTB.out t0 t1 (ub':=(Value.slice A1 (ys.length + 1) c1).ownBlock) (by
          rcases HAT.out with e | ⟨b,e,hb⟩
          · exact .inl ⟨e,fun g hg=>HUB.out g hg⟩
          · exact .inr ⟨b,e,hb⟩)
        have k2:=k1.frame (W':=w42.setCell ⟨gb292,0,none⟩ (.slice A1 (ys.length + 1) c1)) (fun k hk _ _=>FR.out.1 k (by omega))
        have el : (ys ++ [prO x]).length = ys.length + 1:=by simp
        refine ⟨kk + 1,_,_,_,_,_,ys ++ [prO x],Nat.succ_le_of_lt HLT.out,Nat.le_refl _,(by rw [wrap_succ (by have:=HMY.out;have:=HLT.out;omega)]),⟨HGR.out.symm,by rw [el,HY.out.2]⟩,⟨?_⟩,⟨k2.up (by omega)⟩,⟨bp5_0_ BK.out⟩,⟨fun k hk hn=>?_⟩,⟨by omega⟩,⟨below_set HBn.out GE292.out⟩⟩
        · rw [el,cellsPL_snoc]
          exact own_move HO.out (fun k hk=>FR.out.1 k (by have:=own_base HO.out k hk;omega))
        · rw [FR.out.1 k hn,HGN.out.block k (by omega) (fun z=>by have:=HO9.out k z.symm;omega)]
          exact HF.out k hk hn
    · have hltz : decide ((kk : Int) < (l0.length : Int)) = false:=decide_eq_false (by omega)
      have e : ys = l0.map prO:=by rw [HY.out.1,show kk = l0.length by omega,List.take_length]
      have HE:=Aside0.mk e
      have B0:=Aside0.mk ((HF.out _ GL0.out NB282_292.out).trans b0_.out)
      clear e b0_
      obtain ⟨hcz_0,hcz_1,hcz_2,hcz_3,hcz_4,hfz_0,hfz_1,hfz_2,hfz_3,hfz_4⟩:=bz5_ BK
      obtain ⟨hcy_0,hcy_1,hcy_2,hcy_3,hcy_4,hfy_0,hfy_1,hfy_2,hfy_3,hfy_4⟩:=bz5_ B0
      have hnb:=NB292_282.out;have hnc:=NB282_292.out
      go_wp2
      refine bodyPost_ret (results_cell_row rfl _ _ gb282 29 #[.slice Av ys.length cv,.slice Ao20 y283.length co20,.slice Ao19 y286.length co19,.slice Ao18 y289.length co18,.slice none 0 0] (0,0) _ rfl (q11_ B0) Try.underlying29 rfl (by kernel_rfl)) rfl ?_
      have fr : ∀ k,k ≠ gb282 → (((((wr.setCell ⟨gb282,0,none⟩ (.slice Av ys.length cv)).setCell ⟨gb282,1,none⟩ (.slice Ao20 y283.length co20)).setCell ⟨gb282,2,none⟩ (.slice Ao19 y286.length co19)).setCell ⟨gb282,3,none⟩ (.slice Ao18 y289.length co18)).setCell ⟨gb282,4,none⟩ (.slice none 0 0)).heap[k]? = wr.heap[k]?:=fun k hk=>by
        rw [Below.heap_setCell _ ⟨gb282,4,none⟩ _ k hk,Below.heap_setCell _ ⟨gb282,3,none⟩ _ k hk,Below.heap_setCell _ ⟨gb282,2,none⟩ _ k hk,Below.heap_setCell _ ⟨gb282,1,none⟩ _ k hk,Below.heap_setCell _ ⟨gb282,0,none⟩ _ k hk]
      have g0:=GL0.out
      have s1:=S1.out
      refine ⟨_,_,_,_,rfl,⟨fun k=>w1.heap.size ≤ k ∧ k < wr.heap.size,?_,?_,?_,?_,?_,?_,?_⟩,?_⟩
      · have z:=(HK.out.row (Nat.le_refl _) HO.out).frame (fun k hk=>fr k (by omega))
        rw [HE.out] at z
        rw [HE.out]
        exact z
      · have z:=(rowI_of_R HC1.out).frame (fun k hk=>(fr k (fun e=>NC0.out (e ▸ hk))).trans (HF.out k (Kd.R_lt HC1.out k hk.symm) (fun e=>NC1.out (e ▸ hk))))
        rw [Ny283.out] at z ⊢
        exact z
      · have z:=(rowI_of_R HR1.out).frame (fun k hk=>(fr k (fun e=>NR0.out (e ▸ hk))).trans (HF.out k (Kd.R_lt HR1.out k hk.symm) (fun e=>NR1.out (e ▸ hk))))
        rw [Ny286.out] at z ⊢
        exact z
      · have z:=Kd.S_mono (Kd.S_move HZ2.out (fun k hk=>(fr k hk.1.2).trans (HF.out k hk.2.2.1 hk.1.1.2))) (ok':=fun k=>¬ (w1.heap.size ≤ k ∧ k < wr.heap.size) ∧ some k ≠ (.slice Ao20 y283.length co20 : Value).ownBlock ∧ some k ≠ (.slice Ao19 y286.length co19 : Value).ownBlock) (fun k hk=>⟨fun y=>by have:=hk.2.2.1;omega,hk.1.1.1⟩)
        rw [Ny289.out] at z ⊢
        exact z
      · intro k hk
        exact ⟨by omega,by simp [World.setCell];exact hk.2,fun z=>by have:=Kd.R_lt HC1.out k z.symm;omega,fun z=>by have:=Kd.R_lt HR1.out k z.symm;omega⟩
      · intro k hk
        exact ⟨Kd.R_base HC1.out k hk.symm,HC1.out.1 k hk.symm⟩
      · intro k hk
        exact Kd.R_base HR1.out k hk.symm
      · exact below_set (below_set (below_set (below_set (below_set HB.out GE282.out) GE282.out) GE282.out) GE282.out) GE282.out
end Go.Proofs.Ytdjkmnkgaacmfaa.P
