/- Parts of the proof of FnExactMeanOpen: plain Lean functions of Go functions, and that the calls come to what they say; no condition beyond those that each theorem names. -/
import Derived.Test.YtdjkmnkgaacmfaaZFnExactMeanOpen4
import Derived.Test.YtdjkmnkgaacmfaaZFnExactMeanOpen10
import Derived.Test.YtdjkmnkgaacmfaaZFnExactMeanOpen6
import Derived.Test.YtdjkmnkgaacmfaaZFnExactMeanOpen13
namespace Go.Proofs.Ytdjkmnkgaacmfaa.P
open Go.RowKit Go.Proofs.YtdjkmnkgaacmfaaW.PrintWords Go.Proofs.YtdjkmnkgaacmfaaW.PrintLast Go.Proofs.YtdjkmnkgaacmfaaW.PrintMore
attribute [local go_sem] max2_int min2_int max_two min_two max_three min_three max_four min_four
set_option linter.unusedVariables false
set_option linter.unusedSimpArgs false
def IntsC (c c' : Array Value) : Prop:=(∀ q,q % 6 < 4 → (∃ n,c[q]? = some (.int .i64 n)) → ∃ n,c'[q]? = some (.int .i64 n)) ∧ (∀ q,4 ≤ q % 6 → c'[q]? = c[q]?)
def Ints (P : Nat → Prop) (W W' : World) : Prop:=Below 0 W W' ∧ (∀ b : Nat,b < W.heap.size → ¬ P b → W'.heap[b]? = W.heap[b]?) ∧
  ∀ (b : Nat) (c : Array Value),W.heap[b]? = some (Obj.cells c 61 (0,0)) → ∃ c',W'.heap[b]? = some (Obj.cells c' 61 (0,0)) ∧ IntsC c c'
theorem Ints.refl (P : Nat → Prop) (W : World) : Ints P W W:=⟨Below.refl _ _,fun _ _ _=>rfl,fun b c h=>⟨c,h,fun _ _ h=>h,fun _ _=>rfl⟩⟩
theorem Ints.trans {P : Nat → Prop} {W W1 W2 : World} (h : Ints P W W1) (k : Ints P W1 W2) : Ints P W W2 :=
  ⟨h.1.trans k.1,fun b hb hp=>(k.2.1 b (Nat.lt_of_lt_of_le hb h.1.size) hp).trans (h.2.1 b hb hp),fun b c hc=>by
    obtain ⟨c1,h1,a1,b1⟩:=h.2.2 b c hc
    obtain ⟨c2,h2,a2,b2⟩:=k.2.2 b c1 h1
    exact ⟨c2,h2,fun q hq hn=>a2 q hq (a1 q hq hn),fun q hq=>(b2 q hq).trans (b1 q hq)⟩⟩
theorem Ints.mono {P P' : Nat → Prop} {W W1 : World} (h : Ints P W W1) (hp : ∀ k,P k → P' k) : Ints P' W W1:=⟨h.1,fun b hb hn=>h.2.1 b hb fun k=>hn (hp b k),h.2.2⟩
def El (W : World) (g i : Nat) (v4 v5 : Value) : Prop:=∃ cells,W.heap[g]? = some (.cells cells 61 (0,0)) ∧ (∀ j,j < 4 → ∃ n,cells[i * 6 + j]? = some (.int .i64 n)) ∧ cells[i * 6 + 4]? = some v4 ∧ cells[i * 6 + 5]? = some v5
theorem El.ints {P : Nat → Prop} {W W' : World} {g i : Nat} {v4 v5 : Value} (h : El W g i v4 v5) (k : Ints P W W') : El W' g i v4 v5:=by
  obtain ⟨c,hb,h0,h4,h5⟩:=h
  obtain ⟨c',hb',a,b⟩:=k.2.2 g c hb
  exact ⟨c',hb',fun j hj=>a _ (by omega) (h0 j hj),(b _ (by omega)).trans h4,(b _ (by omega)).trans h5⟩
theorem El.set {P : Nat → Prop} {W : World} {g i : Nat} {v4 v5 : Value} (h : El W g i v4 v5) (hP : P g) {j : Nat} (hj : j < 4) (m : Int) : Ints P W (W.setCell ⟨g,i * 6 + j,none⟩ (.int .i64 m)):=by
  obtain ⟨c,hb,h0,_,_⟩:=h
  obtain ⟨n,hn⟩:=h0 j hj
  have hs : (W.setCell ⟨g,i * 6 + j,none⟩ (.int .i64 m)).heap[g]? = some (.cells (c.setIfInBounds (i * 6 + j) (.int .i64 m)) 61 (0,0)):=blk_set hb _ _
  refine ⟨(Below.refl 0 W).setCell (p:=⟨g,i * 6 + j,none⟩) (Nat.zero_le _) _,fun b _ hp=>Below.heap_setCell W ⟨g,i * 6 + j,none⟩ _ b (fun e=>hp (by rw [e];exact hP)),fun b c1 h1=>?_⟩
  by_cases e : b = g
  · subst e
    rw [hb] at h1
    cases h1
    refine ⟨_,hs,fun q hq hx=>?_,fun q hq=>?_⟩
    · by_cases e : i * 6 + j = q
      · subst e
        exact ⟨m,by rw [Array.getElem?_setIfInBounds];simp [(Array.getElem?_eq_some_iff.1 hn).1]⟩
      · rw [Array.getElem?_setIfInBounds_ne e]
        exact hx
    · rw [Array.getElem?_setIfInBounds_ne (by omega)]
  · exact ⟨c1,(Below.heap_setCell W ⟨g,i * 6 + j,none⟩ _ b e).trans h1,fun _ _ h=>h,fun _ _=>rfl⟩
theorem cell_mk {W : World} {b q : Nat} {cs : Array Value} {t : TypeId} {v : Value} (h : W.heap[b]? = some (.cells cs t (0,0))) (hv : cs[q]? = some v) : W.cell? ⟨b,q,none⟩ = some v ∧ W.frozen? ⟨b,q,none⟩ = false:=by
  constructor
  · exact (blk_cell h q).trans hv
  · exact blk_frozen h q
theorem El.cell {W : World} {g i : Nat} {v4 v5 : Value} (h : El W g i v4 v5) {j : Nat} (hj : j < 4) : ∃ n,W.cell? ⟨g,i * 6 + j,none⟩ = some (.int .i64 n) ∧ W.frozen? ⟨g,i * 6 + j,none⟩ = false:=by
  obtain ⟨c,hb,h0,_,_⟩:=h
  obtain ⟨n,hn⟩:=h0 j hj
  exact ⟨n,cell_mk hb hn⟩
theorem El.c4 {W : World} {g i : Nat} {v4 v5 : Value} (h : El W g i v4 v5) : W.cell? ⟨g,i * 6 + 4,none⟩ = some v4:=by
  obtain ⟨c,hb,_,h4,_⟩:=h
  exact (cell_mk hb h4).1
theorem El.c5 {W : World} {g i : Nat} {v4 v5 : Value} (h : El W g i v4 v5) : W.cell? ⟨g,i * 6 + 5,none⟩ = some v5:=by
  obtain ⟨c,hb,_,_,h5⟩:=h
  exact (cell_mk hb h5).1
def MkR : Nat → World → (Nat → Prop) → Value → List S61 → Prop
  | 0,_,_,_,_=>False
  | d + 1,W,P,v,xs=>∃ A cap,v = .slice A xs.length cap ∧ xs.length ≤ 9223372036854775807 ∧ ∀ i x,xs[i]? = some x → ∃ g v4 v5,A = some ⟨g,0,none⟩ ∧ P g ∧ El W g i v4 v5 ∧ MkR d W P v4 x.f4 ∧ MkR d W P v5 x.f5
theorem MkR.ints {P Q : Nat → Prop} {W W' : World} (k : Ints Q W W') : ∀ (d : Nat) (v : Value) (xs : List S61),MkR d W P v xs → MkR d W' P v xs
  | 0,_,_,h=>h.elim
  | d + 1,v,xs,h=>by
    obtain ⟨A,cap,e,hl,h⟩:=h
    refine ⟨A,cap,e,hl,fun i x hx=>?_⟩
    obtain ⟨g,v4,v5,a,b,c,d4,d5⟩:=h i x hx
    exact ⟨g,v4,v5,a,b,c.ints k,MkR.ints k d _ _ d4,MkR.ints k d _ _ d5⟩
theorem MkR.mono {P P' : Nat → Prop} {W : World} (hp : ∀ k,P k → P' k) : ∀ (d : Nat) (v : Value) (xs : List S61),MkR d W P v xs → MkR d W P' v xs
  | 0,_,_,h=>h.elim
  | d + 1,v,xs,h=>by
    obtain ⟨A,cap,e,hl,h⟩:=h
    refine ⟨A,cap,e,hl,fun i x hx=>?_⟩
    obtain ⟨g,v4,v5,a,b,c,d4,d5⟩:=h i x hx
    exact ⟨g,v4,v5,a,hp g b,c,MkR.mono hp d _ _ d4,MkR.mono hp d _ _ d5⟩
theorem MkR.up {P : Nat → Prop} {W : World} : ∀ (d : Nat) (v : Value) (xs : List S61),MkR d W P v xs → MkR (d + 1) W P v xs
  | 0,_,_,h=>h.elim
  | d + 1,v,xs,h=>by
    obtain ⟨A,cap,e,hl,h⟩:=h
    refine ⟨A,cap,e,hl,fun i x hx=>?_⟩
    obtain ⟨g,v4,v5,a,b,c,d4,d5⟩:=h i x hx
    exact ⟨g,v4,v5,a,b,c,MkR.up d _ _ d4,MkR.up d _ _ d5⟩
theorem MkR.slice {P : Nat → Prop} {W : World} {v : Value} {xs : List S61} : ∀ {d : Nat},MkR d W P v xs → ∃ A cap,v = .slice A xs.length cap
  | 0,h=>h.elim
  | d + 1,h=>by
    obtain ⟨A,cap,e,_⟩:=h
    exact ⟨A,cap,e⟩
def mkL (F : List S61 → Int → Option Int) : List S61 → Int → Option Int
  | [],a=>some a
  | x :: t,a=>(F x.f4 (wrap64 (wrap64 (wrap64 (wrap64 (a + 1) + 1) + 1) + 1))).bind fun b=>(F x.f5 b).bind fun c=>mkL F t c
def mkF : Nat → List S61 → Int → Option Int
  | 0,_,_=>none
  | k + 1,xs,a=>mkL (mkF k) xs a
def MSays (F : List S61 → Int → Option Int) : Prop:=∀ (d : Nat) (v : Value) (xs : List S61) (a r : Int) (P : Nat → Prop) (w : World),MkR d w P v xs → F xs a = some r →
  Calls Try.prog 24 #[v,.int .i64 a] w fun e w'=>e = .returned (.int .i64 r) ∧ Ints P w w'
set_option maxHeartbeats 1000000 in
set_option maxRecDepth 100000 in
theorem mark_of (F : List S61 → Int → Option Int) (hF : MSays F) : MSays (mkL F):=by
  intro d v xs a r P w hR h
  cases d with
  | zero=>exact hR.elim
  | succ d =>
  have hR':=hR
  obtain ⟨A,cap,rfl,hl,_⟩:=hR'
  have HF:=Aside0.mk hF
  have HR:=Aside0.mk hR
  have H:=Aside0.mk h
  clear hF hR h
  go_enter Try.func24,Try.ntmps24
  go_wp2
  go_loopg [1,5] xs.length (fun gg p1 p5 wr=>∃ (kk : Nat) (a1 : Int),kk ≤ xs.length ∧ xs.length - kk ≤ gg ∧ p1 = .int .i64 a1 ∧ p5 = .int .i64 kk ∧ Aside0 (mkL F (xs.drop kk) a1 = some r) ∧ Aside0 (Ints P w wr))
  case atStart=>exact ⟨0,a,Nat.zero_le _,by omega,rfl,rfl,H,⟨Ints.refl P w⟩⟩
  case round =>
    obtain ⟨kk,a1,hkk,hgk,rfl,rfl,HE,HI⟩:=hrel
    clear H
    by_cases hlt : kk < xs.length
    · have hltz : decide ((kk : Int) < (xs.length : Int)) = true:=decide_eq_true (by omega)
      have p1 : 0 ≤ (kk : Int):=by omega
      have q1 : (kk : Int) < (xs.length : Int):=by omega
      obtain ⟨A_,cap_,e_,_,hel⟩:=MkR.ints HI.out (d + 1) _ _ HR.out
      injection e_ with eA _ eC
      subst eA
      subst eC
      obtain ⟨g,v4,v5,rfl,hP,hE,h4,h5⟩:=hel kk _ (List.getElem?_eq_getElem hlt)
      have ha:=HE.out
      rw [List.drop_eq_getElem_cons hlt] at ha
      clear hel HE
      generalize xs[kk] = x at *
      obtain ⟨b,hb1,ha⟩:=Option.bind_eq_some_iff.1 ha
      obtain ⟨c,hb2,ha⟩:=Option.bind_eq_some_iff.1 ha
      obtain ⟨A4,c4,rfl⟩:=h4.slice
      obtain ⟨A5,c5,rfl⟩:=h5.slice
      have HN:=Aside0.mk ha
      have HX4:=Aside0.mk (fun W' (q : Ints P wr W')=>HF.out d _ _ _ _ P W' (MkR.ints q d _ _ h4) hb1)
      have HX5:=Aside0.mk (fun W' (q : Ints P wr W')=>HF.out d _ _ _ _ P W' (MkR.ints q d _ _ h5) hb2)
      have HP:=Aside0.mk hP
      have HL:=Aside0.mk (show El wr g kk (.slice A4 x.f4.length c4) (.slice A5 x.f5.length c5) from hE)
      have HQ:=Aside0.mk (Ints.refl P wr)
      clear ha hb1 hb2 h4 h5 hP hE
      obtain ⟨n0,x0,f0⟩:=HL.out.cell (j:=0) (by omega)
      rw [Nat.add_zero] at x0 f0
      replace p1:=eq_true p1
      replace q1:=eq_true q1
      go_wp2_with (first | ((with_reducible refine gate_store (t:=3) (p:=16) rfl ?_);refine store_event (t:=3) (p:=16) (v:=?vo0_) (w1:=(wr.setCell ⟨g,kk * 6,none⟩ (.int .i64 a1))) ?hg ?ho ?hn ?hr ?_;(case ho=>rfl);(case hg=>rfl);(case hn=>rfl);(case hr=>first | (go_simp;done) | (go_simp;rfl));intro w1 hw;have hs : Ints P wr w1:=(by rw [hw];exact HL.out.set HP.out (j:=0) (by omega) _);have n0_:=Aside0.mk (HQ.out.trans hs);have n1_:=Aside0.mk (HL.out.ints hs);clear HQ HL hs hw;have HQ:=n0_;have HL:=n1_;clear n0_ n1_;obtain ⟨n1,x1,f1⟩:=HL.out.cell (j:=1) (by omega)) | ((with_reducible refine gate_store (t:=3) (p:=23) rfl ?_);refine store_event (t:=3) (p:=23) (v:=?vo1_) (w1:=(w1.setCell ⟨g,kk * 6 + 1,none⟩ (.int .i64 (wrap64 (a1 + 1))))) ?hg ?ho ?hn ?hr ?_;(case ho=>rfl);(case hg=>rfl);(case hn=>rfl);(case hr=>first | (go_simp;done) | (go_simp;rfl));intro w2 hw;have hs : Ints P w1 w2:=(by rw [hw];exact HL.out.set HP.out (j:=1) (by omega) _);have n0_:=Aside0.mk (HQ.out.trans hs);have n1_:=Aside0.mk (HL.out.ints hs);clear HQ HL hs hw;have HQ:=n0_;have HL:=n1_;clear n0_ n1_;obtain ⟨n2,x2,f2⟩:=HL.out.cell (j:=2) (by omega)) | ((with_reducible refine gate_store (t:=3) (p:=30) rfl ?_);refine store_event (t:=3) (p:=30) (v:=?vo2_) (w1:=(w2.setCell ⟨g,kk * 6 + 2,none⟩ (.int .i64 (wrap64 (wrap64 (a1 + 1) + 1))))) ?hg ?ho ?hn ?hr ?_;(case ho=>rfl);(case hg=>rfl);(case hn=>rfl);(case hr=>first | (go_simp;done) | (go_simp;rfl));intro w3 hw;have hs : Ints P w2 w3:=(by rw [hw];exact HL.out.set HP.out (j:=2) (by omega) _);have n0_:=Aside0.mk (HQ.out.trans hs);have n1_:=Aside0.mk (HL.out.ints hs);clear HQ HL hs hw;have HQ:=n0_;have HL:=n1_;clear n0_ n1_;obtain ⟨n3,x3,f3⟩:=HL.out.cell (j:=3) (by omega)) | ((with_reducible refine gate_store (t:=3) (p:=37) rfl ?_);refine store_event (t:=3) (p:=37) (v:=?vo3_) (w1:=(w3.setCell ⟨g,kk * 6 + 3,none⟩ (.int .i64 (wrap64 (wrap64 (wrap64 (a1 + 1) + 1) + 1))))) ?hg ?ho ?hn ?hr ?_;(case ho=>rfl);(case hg=>rfl);(case hn=>rfl);(case hr=>first | (go_simp;done) | (go_simp;rfl));intro w4 hw;have hs : Ints P w3 w4:=(by rw [hw];exact HL.out.set HP.out (j:=3) (by omega) _);have n0_:=Aside0.mk (HQ.out.trans hs);have n1_:=Aside0.mk (HL.out.ints hs);clear HQ HL hs hw;have HQ:=n0_;have HL:=n1_;clear n0_ n1_;have x4:=HL.out.c4) | (go_at_call 24;(with_reducible refine (HX4.out _ HQ.out).mono ?_);rintro e w5 ⟨rfl,hi⟩;have n0_:=Aside0.mk (HQ.out.trans hi);have n1_:=Aside0.mk (HL.out.ints hi);clear HQ HL hi;have HQ:=n0_;have HL:=n1_;clear n0_ n1_;have x5:=HL.out.c5) | (go_at_call 24;(with_reducible refine (HX5.out _ HQ.out).mono ?_);rintro e w6 ⟨rfl,hi⟩;have n0_:=Aside0.mk (HQ.out.trans hi);have n1_:=Aside0.mk (HL.out.ints hi);clear HQ HL hi;have HQ:=n0_;have HL:=n1_;clear n0_ n1_))
      go_roundg (xs.length - (kk + 1))
      case measure=>omega
      case rel=>exact ⟨kk + 1,_,by omega,by omega,rfl,by go_num,HN,⟨HI.out.trans HQ.out⟩⟩
    · have hltz : decide ((kk : Int) < (xs.length : Int)) = false:=decide_eq_false (by omega)
      have he:=HE.out
      rw [List.drop_of_length_le (by omega)] at he
      obtain rfl:=Option.some.inj (show some a1 = some r from he)
      clear he HE
      go_wp2
      go_ret
      exact ⟨rfl,HI.out⟩
theorem mark_says : ∀ k,MSays (mkF k)
  | 0=>fun _ _ _ _ _ _ _ _ h=>by cases h
  | k + 1=>mark_of (mkF k) (mark_says k)
theorem mkR_of : ∀ (n : Nat) (xs : List S61),SizeOf.sizeOf xs ≤ n → ∀ (w : World) (base : Nat) (ok : Nat → Prop) (v : Value),Kd.R k61 61 w base ok v xs → MkR n w ok v xs
  | 0,xs,hn,w,base,ok,v,h=>by
    cases xs <;> simp at hn
  | n + 1,xs,hn,w,base,ok,v,h=>by
    obtain ⟨A,cap,e⟩:=Kd.R_slice h
    subst e
    refine ⟨A,cap,rfl,(Kd.R_reads' h).2.2.2.1,fun i x hx=>?_⟩
    obtain ⟨hi,ex⟩:=List.getElem?_eq_some_iff.1 hx
    obtain ⟨g,co,e,hb,hl,cl,HG⟩:=Kd.R_form h (by omega)
    injection e with eA _ _
    subst eA
    obtain ⟨c,hcl,hM,hcc,hfr⟩:=Kd.R_elem h z61 (i : Int) (by omega) (by omega)
    have hd : xs.getD (i : Int).toNat z61 = x:=by
      rw [Int.toNat_natCast,List.getD_eq_getElem?_getD,hx]
      rfl
    rw [hd] at hM
    obtain ⟨v4,v5,rfl,r4,r5⟩:=k61_openM hM
    have cell : ∀ (j : Nat) (u : Value),[Value.int .i64 x.f0,.int .i64 x.f1,.int .i64 x.f2,.int .i64 x.f3,v4,v5][j]? = some u → cl[i * 6 + j]? = some u:=fun j u hu=>by
      have h1:=hcc j u hu
      rw [Int.toNat_natCast] at h1
      exact (blk_cell HG (i * 6 + j)).symm.trans h1
    have hx1 : SizeOf.sizeOf x < SizeOf.sizeOf xs:=by rw [← ex];exact List.sizeOf_lt_of_mem (List.getElem_mem hi)
    have hs : SizeOf.sizeOf x.f4 < SizeOf.sizeOf x ∧ SizeOf.sizeOf x.f5 < SizeOf.sizeOf x:=by
      cases x
      simp
      omega
    refine ⟨g,v4,v5,rfl,h.1 g rfl,⟨cl,HG,fun j hj=>?_,cell 4 _ rfl,cell 5 _ rfl⟩,?_,?_⟩
    · rcases (by omega : j = 0 ∨ j = 1 ∨ j = 2 ∨ j = 3) with rfl | rfl | rfl | rfl
      · exact ⟨_,cell 0 _ rfl⟩
      · exact ⟨_,cell 1 _ rfl⟩
      · exact ⟨_,cell 2 _ rfl⟩
      · exact ⟨_,cell 3 _ rfl⟩
    · exact MkR.mono (fun _ hk=>hk.1) _ _ _ (mkR_of n x.f4 (by omega) w base _ v4 r4)
    · exact MkR.mono (fun _ hk=>hk.1) _ _ _ (mkR_of n x.f5 (by omega) w base _ v5 r5)
theorem Ints.kept {P : Nat → Prop} {W W' : World} (h : Ints P W W') : Kept W W' P:=⟨h.1.size,fun i hi hn=>h.2.1 i hi hn⟩
def laws_markStmtS.f (k : Nat) (l0 : List S61) (a1 : Int) : Option Int:=mkF k l0 a1
def TyP (W : World) (k : Nat) : Prop:=∃ q,q ∈ 61 :: k61.E ∧ ∃ cells,W.heap[k]? = some (.cells cells q (0,0))
end Go.Proofs.Ytdjkmnkgaacmfaa.P

namespace Go.Proofs.Ytdjkmnkgaacmfaa.P
open Go.RowKit Go.Proofs.YtdjkmnkgaacmfaaW.PrintWords Go.Proofs.YtdjkmnkgaacmfaaW.PrintLast Go.Proofs.YtdjkmnkgaacmfaaW.PrintMore
set_option linter.unusedVariables false
set_option linter.unusedSimpArgs false
def ElX (W : World) (g i : Nat) (x : S61) (v4 v5 : Value) : Prop:=∃ cells,W.heap[g]? = some (.cells cells 61 (0,0)) ∧ cells[i * 6]? = some (.int .i64 x.f0) ∧ cells[i * 6 + 1]? = some (.int .i64 x.f1) ∧ cells[i * 6 + 2]? = some (.int .i64 x.f2) ∧ cells[i * 6 + 3]? = some (.int .i64 x.f3) ∧ cells[i * 6 + 4]? = some v4 ∧ cells[i * 6 + 5]? = some v5
theorem ElX.frame {W W' : World} {g i : Nat} {x : S61} {v4 v5 : Value} (h : ElX W g i x v4 v5) (e : W'.heap[g]? = W.heap[g]?) : ElX W' g i x v4 v5:=by
  obtain ⟨c,hb,r⟩:=h
  exact ⟨c,e.trans hb,r⟩
theorem cell_mkX {W : World} {b q : Nat} {cs : Array Value} {t : TypeId} {v : Value} (h : W.heap[b]? = some (.cells cs t (0,0))) (hv : cs[q]? = some v) : W.cell? ⟨b,q,none⟩ = some v ∧ W.frozen? ⟨b,q,none⟩ = false:=⟨(blk_cell h q).trans hv,blk_frozen h q⟩
structure Op (T : World → (Nat → Prop) → Value → List S61 → Prop) (W : World) (g : Nat) (P : Nat → Prop) (V4 V5 : Nat → Value) (Q4 Q5 : Nat → Nat → Prop) (xs : List S61) : Prop where
  pg : P g
  el : ∀ i x,xs[i]? = some x → ElX W g i x (V4 i) (V5 i)
  t4 : ∀ i x,xs[i]? = some x → T W (Q4 i) (V4 i) x.f4
  t5 : ∀ i x,xs[i]? = some x → T W (Q5 i) (V5 i) x.f5
  s4 : ∀ i k,Q4 i k → P k ∧ k ≠ g
  s5 : ∀ i k,Q5 i k → P k ∧ k ≠ g
  d44 : ∀ i j k,Q4 i k → Q4 j k → i = j
  d55 : ∀ i j k,Q5 i k → Q5 j k → i = j
  d45 : ∀ i j k,Q4 i k → ¬ Q5 j k
def FrT (T : World → (Nat → Prop) → Value → List S61 → Prop) : Prop:=∀ W W' Q v l,T W Q v l → (∀ k,Q k → W'.heap[k]? = W.heap[k]?) → T W' Q v l
def Tr : Nat → World → (Nat → Prop) → Value → List S61 → Prop
  | 0,_,_,v,xs=>xs = [] ∧ ∃ A c,v = .slice A 0 c
  | d + 1,W,P,v,xs=>∃ A cap,v = .slice A xs.length cap ∧ xs.length ≤ cap ∧ xs.length ≤ 9223372036854775807 ∧ (xs = [] ∨ ∃ g V4 V5 Q4 Q5,A = some ⟨g,0,none⟩ ∧ Op (Tr d) W g P V4 V5 Q4 Q5 xs)
theorem Op.frame {T : World → (Nat → Prop) → Value → List S61 → Prop} (hT : FrT T) {W W' : World} {g : Nat} {P : Nat → Prop} {V4 V5 : Nat → Value} {Q4 Q5 : Nat → Nat → Prop} {xs : List S61} (h : Op T W g P V4 V5 Q4 Q5 xs) (hf : ∀ k,P k → W'.heap[k]? = W.heap[k]?) : Op T W' g P V4 V5 Q4 Q5 xs :=
  { h with
    el:=fun i x hx=>(h.el i x hx).frame (hf g h.pg)
    t4:=fun i x hx=>hT _ _ _ _ _ (h.t4 i x hx) fun k hk=>hf k (h.s4 i k hk).1
    t5:=fun i x hx=>hT _ _ _ _ _ (h.t5 i x hx) fun k hk=>hf k (h.s5 i k hk).1 }
theorem Tr.frT : ∀ d,FrT (Tr d)
  | 0=>fun _ _ _ _ _ h _=>h
  | d + 1=>fun W W' Q v l h hf=>by
    obtain ⟨A,cap,e,h1,h2,h⟩:=h
    refine ⟨A,cap,e,h1,h2,h.imp_right ?_⟩
    rintro ⟨g,V4,V5,Q4,Q5,ea,ho⟩
    exact ⟨g,V4,V5,Q4,Q5,ea,ho.frame (Tr.frT d) hf⟩
theorem Tr.slice : ∀ {d : Nat} {W : World} {P : Nat → Prop} {v : Value} {xs : List S61},Tr d W P v xs → ∃ A c,v = .slice A xs.length c
  | 0,_,_,_,_,⟨e,A,c,h⟩=>⟨A,c,by rw [e];exact h⟩
  | _ + 1,_,_,_,_,⟨A,c,h,_⟩=>⟨A,c,h⟩
theorem Op.upd {T : World → (Nat → Prop) → Value → List S61 → Prop} (hT : FrT T) {W W' : World} {g : Nat} {P : Nat → Prop} {V4 V5 : Nat → Value} {Q4 Q5 : Nat → Nat → Prop} {xs : List S61} (h : Op T W g P V4 V5 Q4 Q5 xs) {i : Nat} {x x' : S61} (hi : xs[i]? = some x) (e4 : x'.f4 = x.f4) (e5 : x'.f5 = x.f5)
    (hel : ElX W' g i x' (V4 i) (V5 i)) (ho : ∀ j y,j ≠ i → ElX W g j y (V4 j) (V5 j) → ElX W' g j y (V4 j) (V5 j)) (hf : ∀ k,k ≠ g → W'.heap[k]? = W.heap[k]?) : Op T W' g P V4 V5 Q4 Q5 (xs.set i x'):=by
  have hlt : i < xs.length:=(List.getElem?_eq_some_iff.1 hi).1
  have key : ∀ j y,(xs.set i x')[j]? = some y → (j = i ∧ y = x') ∨ (j ≠ i ∧ xs[j]? = some y):=fun j y hy=>by
    by_cases e : j = i
    · subst e
      rw [List.getElem?_set_self hlt] at hy
      exact .inl ⟨rfl,(Option.some.inj hy).symm⟩
    · rw [List.getElem?_set_ne (fun z=>e z.symm)] at hy
      exact .inr ⟨e,hy⟩
  refine { h with el:=fun j y hy=>?_,t4:=fun j y hy=>?_,t5:=fun j y hy=>?_ }
  · rcases key j y hy with ⟨rfl,rfl⟩ | ⟨e,hy⟩
    · exact hel
    · exact ho j y e (h.el j y hy)
  · rcases key j y hy with ⟨rfl,rfl⟩ | ⟨e,hy⟩
    · rw [e4]
      exact hT _ _ _ _ _ (h.t4 _ x hi) fun k hk=>hf k (h.s4 _ k hk).2
    · exact hT _ _ _ _ _ (h.t4 j y hy) fun k hk=>hf k (h.s4 j k hk).2
  · rcases key j y hy with ⟨rfl,rfl⟩ | ⟨e,hy⟩
    · rw [e5]
      exact hT _ _ _ _ _ (h.t5 _ x hi) fun k hk=>hf k (h.s5 _ k hk).2
    · exact hT _ _ _ _ _ (h.t5 j y hy) fun k hk=>hf k (h.s5 j k hk).2
def setN (x : S61) (j : Nat) (n : Int) : S61:=⟨if j = 0 then n else x.f0,if j = 1 then n else x.f1,if j = 2 then n else x.f2,if j = 3 then n else x.f3,x.f4,x.f5⟩
theorem Op.num {T : World → (Nat → Prop) → Value → List S61 → Prop} (hT : FrT T) {W : World} {g : Nat} {P : Nat → Prop} {V4 V5 : Nat → Value} {Q4 Q5 : Nat → Nat → Prop} {xs : List S61} (h : Op T W g P V4 V5 Q4 Q5 xs) {i : Nat} {x : S61} (hi : xs[i]? = some x) {j : Nat} (hj : j < 4) (n : Int) : Op T (W.setCell ⟨g,i * 6 + j,none⟩ (.int .i64 n)) g P V4 V5 Q4 Q5 (xs.set i (setN x j n)):=by
  refine h.upd hT hi rfl rfl ?_ (fun k y hk hy=>?_) (fun k hk=>Below.heap_setCell W ⟨g,i * 6 + j,none⟩ _ k hk)
  · obtain ⟨c,hb,h0,h1,h2,h3,h4,h5⟩:=h.el i x hi
    have get : ∀ (q : Nat) (u : Value),c[i * 6 + q]? = some u → (c.setIfInBounds (i * 6 + j) (.int .i64 n))[i * 6 + q]? = some (if j = q then .int .i64 n else u):=fun q u hu=>by
      by_cases e : j = q
      · subst e
        rw [if_pos rfl,Array.getElem?_setIfInBounds_self_of_lt (Array.getElem?_eq_some_iff.1 hu).1]
      · rw [if_neg e,Array.getElem?_setIfInBounds_ne (by omega)]
        exact hu
    have int : ∀ (q : Nat) (m : Int),(if j = q then Value.int .i64 n else .int .i64 m) = .int .i64 (if j = q then n else m):=fun q m=>by split <;> rfl
    refine ⟨_,blk_set hb _ _,?_,?_,?_,?_,?_,?_⟩
    · have:=get 0 _ h0
      rw [int] at this
      exact this
    · have:=get 1 _ h1
      rw [int] at this
      exact this
    · have:=get 2 _ h2
      rw [int] at this
      exact this
    · have:=get 3 _ h3
      rw [int] at this
      exact this
    · have:=get 4 _ h4
      rw [if_neg (by omega)] at this
      exact this
    · have:=get 5 _ h5
      rw [if_neg (by omega)] at this
      exact this
  · obtain ⟨c,hb,h0,h1,h2,h3,h4,h5⟩:=hy
    refine ⟨_,blk_set hb _ _,?_,?_,?_,?_,?_,?_⟩
    all_goals rw [Array.getElem?_setIfInBounds_ne (by show i * 6 + j ≠ _;omega)]
    · exact h0
    · exact h1
    · exact h2
    · exact h3
    · exact h4
    · exact h5
theorem Op.sub4 {T : World → (Nat → Prop) → Value → List S61 → Prop} (hT : FrT T) {W W' : World} {g : Nat} {P : Nat → Prop} {V4 V5 : Nat → Value} {Q4 Q5 : Nat → Nat → Prop} {xs : List S61} (h : Op T W g P V4 V5 Q4 Q5 xs) {i : Nat} {x : S61} (hi : xs[i]? = some x) {zs : List S61} (ht : T W' (Q4 i) (V4 i) zs) (hf : ∀ k,¬ Q4 i k → W'.heap[k]? = W.heap[k]?) : Op T W' g P V4 V5 Q4 Q5 (xs.set i ⟨x.f0,x.f1,x.f2,x.f3,zs,x.f5⟩):=by
  have hlt : i < xs.length:=(List.getElem?_eq_some_iff.1 hi).1
  have hg : W'.heap[g]? = W.heap[g]?:=hf g fun z=>(h.s4 i g z).2 rfl
  have key : ∀ j y,(xs.set i ⟨x.f0,x.f1,x.f2,x.f3,zs,x.f5⟩)[j]? = some y → (j = i ∧ y = ⟨x.f0,x.f1,x.f2,x.f3,zs,x.f5⟩) ∨ (j ≠ i ∧ xs[j]? = some y):=fun j y hy=>by
    by_cases e : j = i
    · subst e
      rw [List.getElem?_set_self hlt] at hy
      exact .inl ⟨rfl,(Option.some.inj hy).symm⟩
    · rw [List.getElem?_set_ne (fun z=>e z.symm)] at hy
      exact .inr ⟨e,hy⟩
  refine { h with el:=fun j y hy=>?_,t4:=fun j y hy=>?_,t5:=fun j y hy=>?_ }
  · rcases key j y hy with ⟨rfl,rfl⟩ | ⟨e,hy⟩
    · exact (h.el _ x hi).frame hg
    · exact (h.el j y hy).frame hg
  · rcases key j y hy with ⟨rfl,rfl⟩ | ⟨e,hy⟩
    · exact ht
    · exact hT _ _ _ _ _ (h.t4 j y hy) fun k hk=>hf k fun z=>e (h.d44 j i k hk z)
  · rcases key j y hy with ⟨rfl,rfl⟩ | ⟨e,hy⟩
    · exact hT _ _ _ _ _ (h.t5 _ x hi) fun k hk=>hf k fun z=>h.d45 _ _ k z hk
    · exact hT _ _ _ _ _ (h.t5 j y hy) fun k hk=>hf k fun z=>h.d45 _ _ k z hk
theorem Op.sub5 {T : World → (Nat → Prop) → Value → List S61 → Prop} (hT : FrT T) {W W' : World} {g : Nat} {P : Nat → Prop} {V4 V5 : Nat → Value} {Q4 Q5 : Nat → Nat → Prop} {xs : List S61} (h : Op T W g P V4 V5 Q4 Q5 xs) {i : Nat} {x : S61} (hi : xs[i]? = some x) {zs : List S61} (ht : T W' (Q5 i) (V5 i) zs) (hf : ∀ k,¬ Q5 i k → W'.heap[k]? = W.heap[k]?) : Op T W' g P V4 V5 Q4 Q5 (xs.set i ⟨x.f0,x.f1,x.f2,x.f3,x.f4,zs⟩):=by
  have hlt : i < xs.length:=(List.getElem?_eq_some_iff.1 hi).1
  have hg : W'.heap[g]? = W.heap[g]?:=hf g fun z=>(h.s5 i g z).2 rfl
  have key : ∀ j y,(xs.set i ⟨x.f0,x.f1,x.f2,x.f3,x.f4,zs⟩)[j]? = some y → (j = i ∧ y = ⟨x.f0,x.f1,x.f2,x.f3,x.f4,zs⟩) ∨ (j ≠ i ∧ xs[j]? = some y):=fun j y hy=>by
    by_cases e : j = i
    · subst e
      rw [List.getElem?_set_self hlt] at hy
      exact .inl ⟨rfl,(Option.some.inj hy).symm⟩
    · rw [List.getElem?_set_ne (fun z=>e z.symm)] at hy
      exact .inr ⟨e,hy⟩
  refine { h with el:=fun j y hy=>?_,t4:=fun j y hy=>?_,t5:=fun j y hy=>?_ }
  · rcases key j y hy with ⟨rfl,rfl⟩ | ⟨e,hy⟩
    · exact (h.el _ x hi).frame hg
    · exact (h.el j y hy).frame hg
  · rcases key j y hy with ⟨rfl,rfl⟩ | ⟨e,hy⟩
    · exact hT _ _ _ _ _ (h.t4 _ x hi) fun k hk=>hf k fun z=>h.d45 _ _ k hk z
    · exact hT _ _ _ _ _ (h.t4 j y hy) fun k hk=>hf k fun z=>h.d45 _ _ k hk z
  · rcases key j y hy with ⟨rfl,rfl⟩ | ⟨e,hy⟩
    · exact ht
    · exact hT _ _ _ _ _ (h.t5 j y hy) fun k hk=>hf k fun z=>e (h.d55 j i k hk z)
def Frm (P : Nat → Prop) (W W' : World) : Prop:=(∀ k,¬ P k → W'.heap[k]? = W.heap[k]?) ∧ W'.heap.size = W.heap.size ∧ Below 0 W W'
theorem Frm.refl (P : Nat → Prop) (W : World) : Frm P W W:=⟨fun _ _=>rfl,rfl,Below.refl _ _⟩
theorem Frm.trans {P : Nat → Prop} {W W1 W2 : World} (h : Frm P W W1) (k : Frm P W1 W2) : Frm P W W2:=⟨fun b hb=>(k.1 b hb).trans (h.1 b hb),k.2.1.trans h.2.1,h.2.2.trans k.2.2⟩
theorem Frm.mono {P Q : Nat → Prop} {W W1 : World} (h : Frm P W W1) (hp : ∀ k,P k → Q k) : Frm Q W W1:=⟨fun b hb=>h.1 b fun z=>hb (hp b z),h.2⟩
theorem Frm.set {P : Nat → Prop} {W : World} {g : Nat} (hg : P g) (q : Nat) (v : Value) : Frm P W (W.setCell ⟨g,q,none⟩ v) :=
  ⟨fun b hb=>Below.heap_setCell W ⟨g,q,none⟩ v b fun e=>hb (by rw [e];exact hg),by simp [World.setCell],(Below.refl 0 W).setCell (p:=⟨g,q,none⟩) (Nat.zero_le _) v⟩
def mkE (F : List S61 → Int → List S61 × Int) (x : S61) (a : Int) : S61 × Int :=
  let r4:=F x.f4 (wrap64 (wrap64 (wrap64 (wrap64 (a + 1) + 1) + 1) + 1))
  let r5:=F x.f5 r4.2
  (⟨a,wrap64 (a + 1),wrap64 (wrap64 (a + 1) + 1),wrap64 (wrap64 (wrap64 (a + 1) + 1) + 1),r4.1,r5.1⟩,r5.2)
def mkLX (F : List S61 → Int → List S61 × Int) : List S61 → Int → List S61 × Int
  | [],a=>([],a)
  | x :: t,a=>((mkE F x a).1 :: (mkLX F t (mkE F x a).2).1,(mkLX F t (mkE F x a).2).2)
def mkX : Nat → List S61 → Int → List S61 × Int
  | 0,l,a=>(l,a)
  | d + 1,l,a=>mkLX (mkX d) l a
theorem mkLX_len (F : List S61 → Int → List S61 × Int) : ∀ l a,(mkLX F l a).1.length = l.length
  | [],_=>rfl
  | x :: t,a=>by
    show (mkLX F t _).1.length + 1 = t.length + 1
    rw [mkLX_len F t]
end Go.Proofs.Ytdjkmnkgaacmfaa.P

namespace Go.Proofs.Ytdjkmnkgaacmfaa.P
open Go.RowKit Go.Proofs.YtdjkmnkgaacmfaaW.PrintWords Go.Proofs.YtdjkmnkgaacmfaaW.PrintLast Go.Proofs.YtdjkmnkgaacmfaaW.PrintMore
attribute [local go_sem] max2_int min2_int max_two min_two max_three min_three max_four min_four
set_option linter.unusedVariables false
set_option linter.unusedSimpArgs false
def XSays (T : World → (Nat → Prop) → Value → List S61 → Prop) (F : List S61 → Int → List S61 × Int) : Prop:=∀ (v : Value) (xs : List S61) (a : Int) (P : Nat → Prop) (w : World),T w P v xs →
  Calls Try.prog 24 #[v,.int .i64 a] w fun e w'=>e = .returned (.int .i64 (F xs a).2) ∧ T w' P v (F xs a).1 ∧ Frm P w w'
theorem set_set {α : Type} (l : List α) (i : Nat) (a b : α) : (l.set i a).set i b = l.set i b:=by simp
theorem get_set {α : Type} {l : List α} {i : Nat} (h : i < l.length) (a : α) : (l.set i a)[i]? = some a:=List.getElem?_set_self h
theorem Op.at {T : World → (Nat → Prop) → Value → List S61 → Prop} {W : World} {g : Nat} {P : Nat → Prop} {V4 V5 : Nat → Value} {Q4 Q5 : Nat → Nat → Prop} {zs : List S61} (h : Op T W g P V4 V5 Q4 Q5 zs) {i : Nat} {x : S61} (hi : zs[i]? = some x) :
    (W.cell? ⟨g,i * 6,none⟩ = some (.int .i64 x.f0) ∧ W.frozen? ⟨g,i * 6,none⟩ = false) ∧ (W.cell? ⟨g,i * 6 + 1,none⟩ = some (.int .i64 x.f1) ∧ W.frozen? ⟨g,i * 6 + 1,none⟩ = false) ∧ (W.cell? ⟨g,i * 6 + 2,none⟩ = some (.int .i64 x.f2) ∧ W.frozen? ⟨g,i * 6 + 2,none⟩ = false) ∧ (W.cell? ⟨g,i * 6 + 3,none⟩ = some (.int .i64 x.f3) ∧ W.frozen? ⟨g,i * 6 + 3,none⟩ = false) ∧ W.cell? ⟨g,i * 6 + 4,none⟩ = some (V4 i) ∧ W.cell? ⟨g,i * 6 + 5,none⟩ = some (V5 i):=by
  obtain ⟨cs,hb,h0,h1,h2,h3,h4,h5⟩:=h.el i x hi
  exact ⟨cell_mkX hb h0,cell_mkX hb h1,cell_mkX hb h2,cell_mkX hb h3,(cell_mkX hb h4).1,(cell_mkX hb h5).1⟩
theorem Op.step {T : World → (Nat → Prop) → Value → List S61 → Prop} (hT : FrT T) {W : World} {g : Nat} {P : Nat → Prop} {V4 V5 : Nat → Value} {Q4 Q5 : Nat → Nat → Prop} {ys : List S61} {i : Nat} {x : S61} (h : Op T W g P V4 V5 Q4 Q5 (ys.set i x)) (hi : i < ys.length) {j : Nat} (hj : j < 4) (n : Int) : Op T (W.setCell ⟨g,i * 6 + j,none⟩ (.int .i64 n)) g P V4 V5 Q4 Q5 (ys.set i (setN x j n)):=by
  have:=h.num hT (get_set hi x) hj n
  rwa [set_set] at this
set_option maxHeartbeats 2000000 in
set_option maxRecDepth 100000 in
theorem markX_op (T : World → (Nat → Prop) → Value → List S61 → Prop) (hT : FrT T) (hsl : ∀ W P v xs,T W P v xs → ∃ A c,v = .slice A xs.length c) (F : List S61 → Int → List S61 × Int) (hlen : ∀ l a,(F l a).1.length = l.length) (hF : XSays T F)
    (g cap : Nat) (xs : List S61) (a : Int) (P : Nat → Prop) (V4 V5 : Nat → Value) (Q4 Q5 : Nat → Nat → Prop) (w : World) (hm : xs.length ≤ 9223372036854775807) (h : Op T w g P V4 V5 Q4 Q5 xs) :
    Calls Try.prog 24 #[.slice (some ⟨g,0,none⟩) xs.length cap,.int .i64 a] w fun e w'=>e = .returned (.int .i64 (mkLX F xs a).2) ∧ Op T w' g P V4 V5 Q4 Q5 (mkLX F xs a).1 ∧ Frm P w w':=by
  have HF:=Aside0.mk hF
  have HO0:=Aside0.mk h
  have HTT:=Aside0.mk hT
  have HSL:=Aside0.mk hsl
  clear hF h
  obtain ⟨R,hR⟩ : ∃ R,R = mkLX F xs a:=⟨_,rfl⟩
  have HR:=Aside0.mk hR
  go_enter Try.func24,Try.ntmps24
  rw [← hR]
  clear hR
  go_wp2
  go_loopg [1,5] xs.length (fun gg p1 p5 wr=>∃ (kk : Nat) (a1 : Int) (done : List S61),kk ≤ xs.length ∧ xs.length - kk ≤ gg ∧ p1 = .int .i64 a1 ∧ p5 = .int .i64 kk ∧ Aside0 (done.length = kk ∧ R = (done ++ (mkLX F (xs.drop kk) a1).1,(mkLX F (xs.drop kk) a1).2)) ∧ Aside0 (Op T wr g P V4 V5 Q4 Q5 (done ++ xs.drop kk)) ∧ Aside0 (Frm P w wr))
  case atStart=>exact ⟨0,a,[],Nat.zero_le _,by omega,rfl,rfl,⟨rfl,HR.out⟩,HO0,⟨Frm.refl _ _⟩⟩
  case round =>
    obtain ⟨kk,a1,done,hkk,hgk,rfl,rfl,HE,HO,HI⟩:=hrel
    clear HO0 HR
    by_cases hlt : kk < xs.length
    · have hltz : decide ((kk : Int) < (xs.length : Int)) = true:=decide_eq_true (by omega)
      have p1 : 0 ≤ (kk : Int):=by omega
      have q1 : (kk : Int) < (xs.length : Int):=by omega
      have he:=HE.out
      have ho:=HO.out
      rw [List.drop_eq_getElem_cons hlt] at he ho
      generalize xs[kk] = x at *
      obtain ⟨hdl,hR⟩:=he
      have hkl : kk < (done ++ x :: xs.drop (kk + 1)).length:=by rw [List.length_append,hdl];simp
      have hkx : (done ++ x :: xs.drop (kk + 1))[kk]? = some x:=by rw [List.getElem?_append_right (by omega),hdl,Nat.sub_self];rfl
      obtain ⟨A4,c4,e4⟩:=hsl _ _ _ _ (ho.t4 kk x hkx)
      obtain ⟨A5,c5,e5⟩:=hsl _ _ _ _ (ho.t5 kk x hkx)
      obtain ⟨ys,hys⟩ : ∃ ys,ys = done ++ x :: xs.drop (kk + 1):=⟨_,rfl⟩
      rw [← hys] at ho hkl hkx
      have HQ:=Aside0.mk (Frm.refl P wr)
      have HKX:=Aside0.mk hkx
      have HKL:=Aside0.mk hkl
      have HYS:=Aside0.mk hys
      have HRR:=Aside0.mk hR
      have HDL:=Aside0.mk hdl
      have E4:=Aside0.mk e4
      have E5:=Aside0.mk e5
      have PG:=Aside0.mk ho.pg
      have h0 : ys.set kk x = ys:=by
        obtain ⟨z1,z2⟩:=List.getElem?_eq_some_iff.1 hkx
        rw [← z2]
        exact List.set_getElem_self z1
      rw [← h0] at ho
      have HO1:=Aside0.mk ho
      have HC4:=Aside0.mk (fun W (z : T W (Q4 kk) (.slice A4 x.f4.length c4) x.f4)=>HF.out _ _ (wrap64 (wrap64 (wrap64 (wrap64 (a1 + 1) + 1) + 1) + 1)) (Q4 kk) W z)
      have HC5:=Aside0.mk (fun W (z : T W (Q5 kk) (.slice A5 x.f5.length c5) x.f5)=>HF.out _ _ (F x.f4 (wrap64 (wrap64 (wrap64 (wrap64 (a1 + 1) + 1) + 1) + 1))).2 (Q5 kk) W z)
      obtain ⟨⟨x0,f0⟩,_⟩:=Op.at ho (get_set hkl _)
      clear ho hkx hkl hys hR hdl HE HO e4 e5 hsl hT h0
      replace p1:=eq_true p1
      replace q1:=eq_true q1
      go_wp2_with (first | ((with_reducible refine gate_store (t:=3) (p:=16) rfl ?_);refine store_event (t:=3) (p:=16) (v:=?vo0_) (w1:=(wr.setCell ⟨g,kk * 6,none⟩ (.int .i64 a1))) ?hg ?ho ?hn ?hr ?_;(case ho=>rfl);(case hg=>rfl);(case hn=>rfl);(case hr=>first | (go_simp;done) | (go_simp;rfl));intro w1 hw;have n0_:=Aside0.mk (show Op T w1 g P V4 V5 Q4 Q5 (ys.set kk (setN x 0 a1)) by rw [hw];exact HO1.out.step HTT.out HKL.out (j:=0) (by omega) _);have n1_:=Aside0.mk (HQ.out.trans (show Frm P wr w1 by rw [hw];exact Frm.set PG.out _ _));clear HO1 HQ hw x0 f0;have HO1:=n0_;have HQ:=n1_;clear n0_ n1_;obtain ⟨_,⟨x1,f1⟩,_⟩:=Op.at HO1.out (get_set HKL.out _)) | ((with_reducible refine gate_store (t:=3) (p:=23) rfl ?_);refine store_event (t:=3) (p:=23) (v:=?vo1_) (w1:=(w1.setCell ⟨g,kk * 6 + 1,none⟩ (.int .i64 (wrap64 (a1 + 1))))) ?hg ?ho ?hn ?hr ?_;(case ho=>rfl);(case hg=>rfl);(case hn=>rfl);(case hr=>first | (go_simp;done) | (go_simp;rfl));intro w2 hw;have n0_:=Aside0.mk (show Op T w2 g P V4 V5 Q4 Q5 (ys.set kk (setN (setN x 0 a1) 1 (wrap64 (a1 + 1)))) by rw [hw];exact HO1.out.step HTT.out HKL.out (j:=1) (by omega) _);have n1_:=Aside0.mk (HQ.out.trans (show Frm P w1 w2 by rw [hw];exact Frm.set PG.out _ _));clear HO1 HQ hw x1 f1;have HO1:=n0_;have HQ:=n1_;clear n0_ n1_;obtain ⟨_,_,⟨x2,f2⟩,_⟩:=Op.at HO1.out (get_set HKL.out _)) | ((with_reducible refine gate_store (t:=3) (p:=30) rfl ?_);refine store_event (t:=3) (p:=30) (v:=?vo2_) (w1:=(w2.setCell ⟨g,kk * 6 + 2,none⟩ (.int .i64 (wrap64 (wrap64 (a1 + 1) + 1))))) ?hg ?ho ?hn ?hr ?_;(case ho=>rfl);(case hg=>rfl);(case hn=>rfl);(case hr=>first | (go_simp;done) | (go_simp;rfl));intro w3 hw;have n0_:=Aside0.mk (show Op T w3 g P V4 V5 Q4 Q5 (ys.set kk (setN (setN (setN x 0 a1) 1 (wrap64 (a1 + 1))) 2 (wrap64 (wrap64 (a1 + 1) + 1)))) by rw [hw];exact HO1.out.step HTT.out HKL.out (j:=2) (by omega) _);have n1_:=Aside0.mk (HQ.out.trans (show Frm P w2 w3 by rw [hw];exact Frm.set PG.out _ _));clear HO1 HQ hw x2 f2;have HO1:=n0_;have HQ:=n1_;clear n0_ n1_;obtain ⟨_,_,_,⟨x3,f3⟩,_⟩:=Op.at HO1.out (get_set HKL.out _)) | ((with_reducible refine gate_store (t:=3) (p:=37) rfl ?_);refine store_event (t:=3) (p:=37) (v:=?vo3_) (w1:=(w3.setCell ⟨g,kk * 6 + 3,none⟩ (.int .i64 (wrap64 (wrap64 (wrap64 (a1 + 1) + 1) + 1))))) ?hg ?ho ?hn ?hr ?_;(case ho=>rfl);(case hg=>rfl);(case hn=>rfl);(case hr=>first | (go_simp;done) | (go_simp;rfl));intro w4 hw;have n0_:=Aside0.mk (show Op T w4 g P V4 V5 Q4 Q5 (ys.set kk (setN (setN (setN (setN x 0 a1) 1 (wrap64 (a1 + 1))) 2 (wrap64 (wrap64 (a1 + 1) + 1))) 3 (wrap64 (wrap64 (wrap64 (a1 + 1) + 1) + 1)))) by rw [hw];exact HO1.out.step HTT.out HKL.out (j:=3) (by omega) _);have n1_:=Aside0.mk (HQ.out.trans (show Frm P w3 w4 by rw [hw];exact Frm.set PG.out _ _));clear HO1 HQ hw x3 f3;have HO1:=n0_;have HQ:=n1_;clear n0_ n1_;obtain ⟨_,_,_,_,x4,_⟩:=Op.at HO1.out (get_set HKL.out _);rw [E4.out] at x4) | (go_at_call 24;(with_reducible refine (HC4.out _ ?sd).mono ?_);(case sd=>rw [← E4.out];have z:=HO1.out.t4 kk _ (get_set HKL.out _);exact z);rintro e w5 ⟨rfl,ht,hf⟩;have n0_:=Aside0.mk (show Op T w5 g P V4 V5 Q4 Q5 (ys.set kk ⟨a1,wrap64 (a1 + 1),wrap64 (wrap64 (a1 + 1) + 1),wrap64 (wrap64 (wrap64 (a1 + 1) + 1) + 1),(F x.f4 (wrap64 (wrap64 (wrap64 (wrap64 (a1 + 1) + 1) + 1) + 1))).1,x.f5⟩) by have z:=HO1.out.sub4 HTT.out (get_set HKL.out _) (by rw [E4.out];exact ht) hf.1;rw [set_set] at z;exact z);have n1_:=Aside0.mk (HQ.out.trans (hf.mono fun k hk=>(HO1.out.s4 kk k hk).1));clear HO1 HQ ht hf x4;have HO1:=n0_;have HQ:=n1_;clear n0_ n1_;obtain ⟨_,_,_,_,_,x5⟩:=Op.at HO1.out (get_set HKL.out _);rw [E5.out] at x5) | (go_at_call 24;(with_reducible refine (HC5.out _ ?sd).mono ?_);(case sd=>rw [← E5.out];have z:=HO1.out.t5 kk _ (get_set HKL.out _);exact z);rintro e w6 ⟨rfl,ht,hf⟩;have n0_:=Aside0.mk (show Op T w6 g P V4 V5 Q4 Q5 (ys.set kk (mkE F x a1).1) by have z:=HO1.out.sub5 HTT.out (get_set HKL.out _) (by rw [E5.out];exact ht) hf.1;rw [set_set] at z;exact z);have n1_:=Aside0.mk (HQ.out.trans (hf.mono fun k hk=>(HO1.out.s5 kk k hk).1));clear HO1 HQ ht hf x5;have HO1:=n0_;have HQ:=n1_;clear n0_ n1_))
      go_roundg (xs.length - (kk + 1))
      case measure=>omega
      case rel =>
        refine ⟨kk + 1,(mkE F x a1).2,done ++ [(mkE F x a1).1],by omega,by omega,rfl,by go_num,⟨?_,?_⟩,⟨?_⟩,⟨HI.out.trans HQ.out⟩⟩
        · rw [List.length_append,HDL.out]
          rfl
        · rw [HRR.out,List.append_assoc]
          rfl
        · have z:=HO1.out
          rw [HYS.out] at z
          rw [List.append_assoc]
          have e : (done ++ x :: xs.drop (kk + 1)).set kk (mkE F x a1).1 = done ++ ([(mkE F x a1).1] ++ xs.drop (kk + 1)):=by
            rw [List.set_append_right _ _ (by rw [HDL.out];exact Nat.le_refl _),HDL.out,Nat.sub_self]
            rfl
          rw [e] at z
          exact z
    · have hltz : decide ((kk : Int) < (xs.length : Int)) = false:=decide_eq_false (by omega)
      have he:=HE.out
      have ho:=HO.out
      rw [List.drop_of_length_le (by omega)] at he ho
      have HRR:=Aside0.mk he.2
      have HO1:=Aside0.mk ho
      clear he ho HE HO
      go_wp2
      go_ret
      rw [HRR.out]
      exact ⟨rfl,HO1.out,HI.out⟩
def cellsE (x : S61) (v4 v5 : Value) : List Value:=[.int .i64 x.f0,.int .i64 x.f1,.int .i64 x.f2,.int .i64 x.f3,v4,v5]
def cellsL (ys : List S61) (V4 V5 : Nat → Value) : Nat → List Value
  | 0=>[]
  | n + 1=>cellsL ys V4 V5 n ++ cellsE (ys.getD n z61) (V4 n) (V5 n)
theorem cellsL_len (ys : List S61) (V4 V5 : Nat → Value) : ∀ n,(cellsL ys V4 V5 n).length = n * 6
  | 0=>rfl
  | n + 1=>by
    show (cellsL ys V4 V5 n ++ cellsE _ _ _).length = _
    rw [List.length_append,cellsL_len ys V4 V5 n]
    show n * 6 + 6 = _
    omega
theorem cellsL_at (ys : List S61) (V4 V5 : Nat → Value) (i q : Nat) (hq : q < 6) : ∀ n,i < n → (cellsL ys V4 V5 n)[i * 6 + q]? = (cellsE (ys.getD i z61) (V4 i) (V5 i))[q]?
  | 0,h=>by omega
  | n + 1,h=>by
    show (cellsL ys V4 V5 n ++ cellsE _ _ _)[i * 6 + q]? = _
    by_cases e : i = n
    · subst e
      rw [List.getElem?_append_right (by rw [cellsL_len];omega),cellsL_len,show i * 6 + q - i * 6 = q by omega]
    · rw [List.getElem?_append_left (by rw [cellsL_len];omega)]
      exact cellsL_at ys V4 V5 i q hq n (by omega)
theorem cellsL_congr (ys ys' : List S61) (V4 V5 V4' V5' : Nat → Value) : ∀ n,(∀ i,i < n → ys.getD i z61 = ys'.getD i z61 ∧ V4 i = V4' i ∧ V5 i = V5' i) → cellsL ys V4 V5 n = cellsL ys' V4' V5' n
  | 0,_=>rfl
  | n + 1,h=>by
    obtain ⟨a,b,c⟩:=h n (by omega)
    show cellsL ys V4 V5 n ++ cellsE _ _ _ = cellsL ys' V4' V5' n ++ cellsE _ _ _
    rw [cellsL_congr ys ys' V4 V5 V4' V5' n (fun i hi=>h i (by omega)),a,b,c]
def upd {α : Type} (V : Nat → α) (n : Nat) (v : α) : Nat → α:=fun i=>if i = n then v else V i
theorem upd_self {α : Type} (V : Nat → α) (n : Nat) (v : α) : upd V n v n = v:=if_pos rfl
theorem upd_ne {α : Type} (V : Nat → α) {n i : Nat} (v : α) (h : i ≠ n) : upd V n v i = V i:=if_neg h
theorem cellsL_snoc (ys : List S61) (x : S61) (V4 V5 : Nat → Value) (v4 v5 : Value) : cellsL (ys ++ [x]) (upd V4 ys.length v4) (upd V5 ys.length v5) (ys.length + 1) = cellsL ys V4 V5 ys.length ++ cellsE x v4 v5:=by
  show cellsL _ _ _ ys.length ++ cellsE _ _ _ = _
  rw [upd_self,upd_self,cellsL_congr (ys ++ [x]) ys _ _ V4 V5 ys.length (fun i hi=>⟨by rw [List.getD_eq_getElem?_getD,List.getD_eq_getElem?_getD,List.getElem?_append_left hi],upd_ne _ _ (by omega),upd_ne _ _ (by omega)⟩)]
  congr 2
  rw [List.getD_eq_getElem?_getD,List.getElem?_append_right (Nat.le_refl _),Nat.sub_self]
  rfl
structure Kds (d : Nat) (W : World) (n0 hi : Nat) (ub : Option Nat) (ys : List S61) (V4 V5 : Nat → Value) (Q4 Q5 : Nat → Nat → Prop) : Prop where
  t4 : ∀ i x,ys[i]? = some x → Tr d W (Q4 i) (V4 i) x.f4
  t5 : ∀ i x,ys[i]? = some x → Tr d W (Q5 i) (V5 i) x.f5
  r4 : ∀ i k,Q4 i k → i < ys.length ∧ n0 ≤ k ∧ k < hi ∧ some k ≠ ub
  r5 : ∀ i k,Q5 i k → i < ys.length ∧ n0 ≤ k ∧ k < hi ∧ some k ≠ ub
  d44 : ∀ i j k,Q4 i k → Q4 j k → i = j
  d55 : ∀ i j k,Q5 i k → Q5 j k → i = j
  d45 : ∀ i j k,Q4 i k → ¬ Q5 j k
theorem Kds.nil (d : Nat) (W : World) (n0 hi : Nat) (ub : Option Nat) : Kds d W n0 hi ub [] (fun _=>.slice none 0 0) (fun _=>.slice none 0 0) (fun _ _=>False) (fun _ _=>False) :=
  ⟨fun i x h=>by simp at h,fun i x h=>by simp at h,fun _ _ h=>h.elim,fun _ _ h=>h.elim,fun _ _ _ h=>h.elim,fun _ _ _ h=>h.elim,fun _ _ _ h=>h.elim⟩
theorem Kds.frame {d : Nat} {W W' : World} {n0 hi : Nat} {ub : Option Nat} {ys : List S61} {V4 V5 : Nat → Value} {Q4 Q5 : Nat → Nat → Prop} (h : Kds d W n0 hi ub ys V4 V5 Q4 Q5) (hf : ∀ k,k < hi → some k ≠ ub → W'.heap[k]? = W.heap[k]?) : Kds d W' n0 hi ub ys V4 V5 Q4 Q5 :=
  { h with
    t4:=fun i x hx=>Tr.frT d _ _ _ _ _ (h.t4 i x hx) fun k hk=>hf k (h.r4 i k hk).2.2.1 (h.r4 i k hk).2.2.2
    t5:=fun i x hx=>Tr.frT d _ _ _ _ _ (h.t5 i x hx) fun k hk=>hf k (h.r5 i k hk).2.2.1 (h.r5 i k hk).2.2.2 }
theorem Kds.snoc {d : Nat} {W : World} {n0 hi : Nat} {ub : Option Nat} {ys : List S61} {V4 V5 : Nat → Value} {Q4 Q5 : Nat → Nat → Prop} (h : Kds d W n0 hi ub ys V4 V5 Q4 Q5) {x : S61} {v4 v5 : Value} {s1 e1 e2 : Nat} (h1 : hi ≤ s1) (h2 : s1 ≤ e1) (h3 : e1 ≤ e2) (h0 : n0 ≤ hi)
    (ht4 : Tr d W (fun k=>s1 ≤ k ∧ k < e1) v4 x.f4) (ht5 : Tr d W (fun k=>e1 ≤ k ∧ k < e2) v5 x.f5) {ub' : Option Nat} (hub : (ub' = ub ∧ ∀ g,ub = some g → g < hi) ∨ ∃ b,ub' = some b ∧ e2 ≤ b) :
    Kds d W n0 e2 ub' (ys ++ [x]) (upd V4 ys.length v4) (upd V5 ys.length v5) (upd Q4 ys.length fun k=>s1 ≤ k ∧ k < e1) (upd Q5 ys.length fun k=>e1 ≤ k ∧ k < e2):=by
  have get : ∀ i y,(ys ++ [x])[i]? = some y → (i = ys.length ∧ y = x) ∨ (i ≠ ys.length ∧ ys[i]? = some y):=fun i y hy=>by
    rcases Nat.lt_trichotomy i ys.length with l | l | l
    · rw [List.getElem?_append_left l] at hy
      exact .inr ⟨by omega,hy⟩
    · subst l
      rw [List.getElem?_append_right (Nat.le_refl _),Nat.sub_self] at hy
      exact .inl ⟨rfl,(Option.some.inj hy).symm⟩
    · rw [List.getElem?_eq_none (by simp;omega)] at hy
      cases hy
  have old : ∀ (Q : Nat → Nat → Prop),(∀ i k,Q i k → i < ys.length ∧ n0 ≤ k ∧ k < hi ∧ some k ≠ ub) → ∀ i k,i ≠ ys.length → Q i k → i < (ys ++ [x]).length ∧ n0 ≤ k ∧ k < e2 ∧ some k ≠ ub':=fun Q hQ i k hi hk=>by
    obtain ⟨a,b,c,e⟩:=hQ i k hk
    refine ⟨by simp;omega,b,by omega,?_⟩
    rcases hub with ⟨rfl,_⟩ | ⟨b',rfl,hb⟩
    · exact e
    · intro z
      injection z with z
      omega
  have new : ∀ k,s1 ≤ k → k < e2 → some k ≠ ub':=fun k a b z=>by
    rcases hub with ⟨rfl,hg⟩ | ⟨b',rfl,hb⟩
    · have:=hg k z.symm
      omega
    · injection z with z
      omega
  refine ⟨fun i y hy=>?_,fun i y hy=>?_,fun i k hk=>?_,fun i k hk=>?_,fun i j k a b=>?_,fun i j k a b=>?_,fun i j k a b=>?_⟩
  · rcases get i y hy with ⟨rfl,rfl⟩ | ⟨e,hy⟩
    · rw [upd_self,upd_self]
      exact ht4
    · rw [upd_ne _ _ e,upd_ne _ _ e]
      exact h.t4 i y hy
  · rcases get i y hy with ⟨rfl,rfl⟩ | ⟨e,hy⟩
    · rw [upd_self,upd_self]
      exact ht5
    · rw [upd_ne _ _ e,upd_ne _ _ e]
      exact h.t5 i y hy
  · by_cases e : i = ys.length
    · subst e
      rw [upd_self] at hk
      exact ⟨by simp,by omega,by omega,new k hk.1 (by omega)⟩
    · rw [upd_ne _ _ e] at hk
      exact old Q4 h.r4 i k e hk
  · by_cases e : i = ys.length
    · subst e
      rw [upd_self] at hk
      exact ⟨by simp,by omega,by omega,new k (by omega) hk.2⟩
    · rw [upd_ne _ _ e] at hk
      exact old Q5 h.r5 i k e hk
  · by_cases e : i = ys.length
    · by_cases f : j = ys.length
      · omega
      · rw [e,upd_self] at a
        rw [upd_ne _ _ f] at b
        have:=h.r4 j k b
        omega
    · by_cases f : j = ys.length
      · rw [f,upd_self] at b
        rw [upd_ne _ _ e] at a
        have:=h.r4 i k a
        omega
      · rw [upd_ne _ _ e] at a
        rw [upd_ne _ _ f] at b
        exact h.d44 i j k a b
  · by_cases e : i = ys.length
    · by_cases f : j = ys.length
      · omega
      · rw [e,upd_self] at a
        rw [upd_ne _ _ f] at b
        have:=h.r5 j k b
        omega
    · by_cases f : j = ys.length
      · rw [f,upd_self] at b
        rw [upd_ne _ _ e] at a
        have:=h.r5 i k a
        omega
      · rw [upd_ne _ _ e] at a
        rw [upd_ne _ _ f] at b
        exact h.d55 i j k a b
  · by_cases e : i = ys.length
    · rw [e,upd_self] at a
      by_cases f : j = ys.length
      · rw [f,upd_self] at b
        omega
      · rw [upd_ne _ _ f] at b
        have:=h.r5 j k b
        omega
    · rw [upd_ne _ _ e] at a
      have:=h.r4 i k a
      by_cases f : j = ys.length
      · rw [f,upd_self] at b
        omega
      · rw [upd_ne _ _ f] at b
        exact h.d45 i j k a b
theorem Kds.tr {d : Nat} {W : World} {n0 hi : Nat} {v : Value} {ys : List S61} {V4 V5 : Nat → Value} {Q4 Q5 : Nat → Nat → Prop} (h : Kds d W n0 hi v.ownBlock ys V4 V5 Q4 Q5) (hh : hi ≤ W.heap.size) (ho : W.ownsRow n0 61 6 v ys.length (cellsL ys V4 V5 ys.length)) : Tr (d + 1) W (fun k=>n0 ≤ k ∧ k < W.heap.size) v ys:=by
  have h2:=ho.2
  rcases h2 with ⟨rfl,hn⟩ | ⟨g,cap,cur,rfl,hb,hg,hc,hm,hs,hk⟩
  · obtain rfl:=List.eq_nil_of_length_eq_zero hn
    exact ⟨none,0,rfl,Nat.le_refl _,by simp,.inl rfl⟩
  · refine ⟨_,cap,rfl,hc,by simp only [maxLen] at hm;omega,.inr ⟨g,V4,V5,Q4,Q5,rfl,?_⟩⟩
    have hgl : g < W.heap.size:=(Array.getElem?_eq_some_iff.1 hg).1
    have cl : ∀ j u,(cellsL ys V4 V5 ys.length)[j]? = some u → cur[j]? = some u:=fun j u hu=>by
      rw [← hk] at hu
      rw [List.getElem?_take] at hu
      split at hu
      · rw [← Array.getElem?_toList]
        exact hu
      · cases hu
    refine ⟨⟨hb,hgl⟩,fun i x hx=>?_,h.t4,h.t5,fun i k hk=>?_,fun i k hk=>?_,h.d44,h.d55,h.d45⟩
    · have hi : i < ys.length:=(List.getElem?_eq_some_iff.1 hx).1
      have e : ys.getD i z61 = x:=by rw [List.getD_eq_getElem?_getD,hx];rfl
      have c:=fun q (hq : q < 6)=>cellsL_at ys V4 V5 i q hq ys.length hi
      rw [e] at c
      exact ⟨cur,hg,cl _ _ (c 0 (by omega)),cl _ _ (c 1 (by omega)),cl _ _ (c 2 (by omega)),cl _ _ (c 3 (by omega)),cl _ _ (c 4 (by omega)),cl _ _ (c 5 (by omega))⟩
    · obtain ⟨_,a,b,c⟩:=h.r4 i k hk
      exact ⟨⟨a,by omega⟩,fun z=>c (by rw [z];rfl)⟩
    · obtain ⟨_,a,b,c⟩:=h.r5 i k hk
      exact ⟨⟨a,by omega⟩,fun z=>c (by rw [z];rfl)⟩
theorem far6 {W : World} (g : Nat) (v0 v1 v2 v3 v4 v5 : Value) : (∀ k,k ≠ g → ((((((W.setCell ⟨g,0,none⟩ v0).setCell ⟨g,1,none⟩ v1).setCell ⟨g,2,none⟩ v2).setCell ⟨g,3,none⟩ v3).setCell ⟨g,4,none⟩ v4).setCell ⟨g,5,none⟩ v5).heap[k]? = W.heap[k]?) ∧ ((((((W.setCell ⟨g,0,none⟩ v0).setCell ⟨g,1,none⟩ v1).setCell ⟨g,2,none⟩ v2).setCell ⟨g,3,none⟩ v3).setCell ⟨g,4,none⟩ v4).setCell ⟨g,5,none⟩ v5).heap.size = W.heap.size:=by
  have f : ∀ (W : World) (q : Nat) (v : Value) k,k ≠ g → (W.setCell ⟨g,q,none⟩ v).heap[k]? = W.heap[k]?:=fun W q v k hk=>Below.heap_setCell W ⟨g,q,none⟩ v k hk
  refine ⟨fun k hk=>?_,by simp [World.setCell]⟩
  rw [f _ _ _ k hk,f _ _ _ k hk,f _ _ _ k hk,f _ _ _ k hk,f _ _ _ k hk,f _ _ _ k hk]
theorem far2 {W : World} (g : Nat) (v4 v5 : Value) : (∀ k,k ≠ g → ((W.setCell ⟨g,4,none⟩ v4).setCell ⟨g,5,none⟩ v5).heap[k]? = W.heap[k]?) ∧ ((W.setCell ⟨g,4,none⟩ v4).setCell ⟨g,5,none⟩ v5).heap.size = W.heap.size:=by
  have f : ∀ (W : World) (q : Nat) (v : Value) k,k ≠ g → (W.setCell ⟨g,q,none⟩ v).heap[k]? = W.heap[k]?:=fun W q v k hk=>Below.heap_setCell W ⟨g,q,none⟩ v k hk
  refine ⟨fun k hk=>?_,by simp [World.setCell]⟩
  rw [f _ _ _ k hk,f _ _ _ k hk]
theorem Kds.up {d : Nat} {W : World} {n0 hi hi' : Nat} {ub : Option Nat} {ys : List S61} {V4 V5 : Nat → Value} {Q4 Q5 : Nat → Nat → Prop} (h : Kds d W n0 hi ub ys V4 V5 Q4 Q5) (hh : hi ≤ hi') : Kds d W n0 hi' ub ys V4 V5 Q4 Q5 :=
  { h with
    r4:=fun i k hk=>by have:=h.r4 i k hk;exact ⟨this.1,this.2.1,by omega,this.2.2.2⟩
    r5:=fun i k hk=>by have:=h.r5 i k hk;exact ⟨this.1,this.2.1,by omega,this.2.2.2⟩ }
def Fits : Nat → List S61 → Prop
  | 0,l=>l = []
  | d + 1,l=>l.length ≤ 1099511627776 ∧ ∀ x ∈ l,Fits d x.f4 ∧ Fits d x.f5
def CSays (d : Nat) : Prop:=∀ (A : Option Addr) (c : Nat) (l : List S61) (w : World),Kd.C k61 w A l.length l → l.length ≤ c → Fits d l →
  Calls Try.prog 41 #[.slice A l.length c] w fun e w'=>∃ v : Value,e = .returned v ∧ Tr d w' (fun k=>w.heap.size ≤ k ∧ k < w'.heap.size) v l ∧ Below w.heap.size w w'
theorem copy_nil (A : Option Addr) (c : Nat) (w : World) : Calls Try.prog 41 #[.slice A 0 c] w fun e w'=>e = .returned (.slice none 0 0) ∧ w' = w:=by
  go_enter Try.func41,Try.ntmps41
  go_wp2
  go_loopg [3,8] 1 (fun gg v3 v8 wr=>v3 = .slice none 0 0 ∧ v8 = .int .i64 0 ∧ wr = w)
  case atStart=>exact ⟨rfl,rfl,rfl⟩
  case round =>
    obtain ⟨rfl,rfl,rfl⟩:=hrel
    go_wp2
    go_ret
    exact ⟨rfl,rfl⟩
set_option maxHeartbeats 8000000 in
set_option maxRecDepth 100000 in
theorem copy_of (d : Nat) (ih : CSays d) : CSays (d + 1):=by
  intro A0 c0 l0 w hr0 hc0 hfit
  unfold CSays at ih
  have HIH:=Aside0.mk ih
  have HR0:=Aside0.mk hr0
  have HF0:=Aside0.mk hfit
  have hu61:=Try.underlying61
  clear ih hr0 hfit
  go_enter Try.func41,Try.ntmps41
  go_wp2
  go_loopg [3,8] l0.length (fun gg v3 v8 wr=>∃ (kk : Nat) (v : Value) (V4 V5 : Nat → Value) (Q4 Q5 : Nat → Nat → Prop) (ys : List S61),kk ≤ l0.length ∧ l0.length - kk ≤ gg ∧ v3 = v ∧ v8 = .int .i64 kk ∧ Aside0 (ys = l0.take kk ∧ ys.length = kk) ∧ Aside0 (wr.ownsRow w.heap.size 61 6 v ys.length (cellsL ys V4 V5 ys.length)) ∧ Aside0 (Kds d wr w.heap.size wr.heap.size v.ownBlock ys V4 V5 Q4 Q5) ∧ Aside0 (Below w.heap.size w wr))
  case atStart=>exact ⟨0,_,_,_,_,_,[],Nat.zero_le _,by omega,rfl,rfl,⟨rfl,rfl⟩,⟨own_nil w _ _ _⟩,⟨Kds.nil d w _ _ _⟩,⟨Below.refl _ _⟩⟩
  case round =>
    obtain ⟨kk,vv,V4,V5,Q4,Q5,ys,hkk,hgk,rfl,rfl,HY,HO,HK,HB⟩:=hrel
    obtain ⟨Av,cv,rfl⟩:=own_slice HO.out
    by_cases hlt : kk < l0.length
    · have hltz : decide ((kk : Int) < (l0.length : Int)) = true:=decide_eq_true (by omega)
      have p1 : 0 ≤ (kk : Int):=by omega
      have q1 : (kk : Int) < (l0.length : Int):=by omega
      obtain ⟨ad,A4,c4,A5,c5,e1,g0,g1,g2,g3,g4,g5,hc4,H4,hc5,H5⟩:=at_T61 HR0.out (kk : Int) p1 q1
      cases e1
      rw [Int.toNat_natCast] at g0 g1 g2 g3 g4 g5
      have tr : ∀ {p : Addr} {u : Value},w.cell? p = some u → wr.cell? p = some u:=fun h=>(HB.out.cell (World.block_lt_of_cell? w _ h)).trans h
      replace g0:=tr g0
      replace g1:=tr g1
      replace g2:=tr g2
      replace g3:=tr g3
      replace g4:=tr g4
      replace g5:=tr g5
      have hki : l0[kk]? = some (rd_T61 l0 (kk : Int)):=by
        unfold rd_T61
        rw [Int.toNat_natCast,List.getD_eq_getElem?_getD,List.getElem?_eq_getElem hlt]
        rfl
      have hmem:=List.mem_of_getElem? hki
      have hf4:=(HF0.out.2 _ hmem).1
      have hf5:=(HF0.out.2 _ hmem).2
      have hub : ∀ k,(Value.slice Av ys.length cv).ownBlock = some k → k < wr.heap.size:=own_lt HO.out
      have hlm : (ys.length + 1) * 80 ≤ 140737488355328:=by have:=HF0.out.1;have:=HY.out.2;omega
      have hgrow : l0.take (kk + 1) = ys ++ [rd_T61 l0 (kk : Int)]:=by
        rw [List.take_add_one,hki,HY.out.1]
        rfl
      have HC4:=Aside0.mk H4
      have HC5:=Aside0.mk H5
      have HL4:=Aside0.mk hc4
      have HL5:=Aside0.mk hc5
      have HD4:=Aside0.mk hf4
      have HD5:=Aside0.mk hf5
      have HUB:=Aside0.mk hub
      have HLM:=Aside0.mk hlm
      have HGR:=Aside0.mk hgrow
      have HB0:=HB
      have HLT:=Aside0.mk hlt
      clear H4 H5 hc4 hc5 hf4 hf5 hub hlm hgrow hki hmem tr
      generalize rd_T61 l0 (kk : Int) = x at *
      replace p1:=eq_true p1
      replace q1:=eq_true q1
      try go_wp2_with (first | ((with_reducible refine gate_dst (N:=5) rfl ?_);refine box_event ?hg (N:=5) ?hd (cs:=#[.int .i64 0,.int .i64 0,.int .i64 0,.int .i64 0,.slice none 0 0,.slice none 0 0]) (t:=61) ?hr ?_;(case hd=>rfl);(case hg=>rfl);(case hr=>first | (go_simp;done) | (go_simp;rfl));intro gb hg w8 hbox hb;have n0_:=Aside0.mk (pw_own_below HO.out hb);have n1_:=Aside0.mk (HK.out.frame (fun k hk _=>hb.block k hk));have n2_:=Aside0.mk (below_step HB.out hb);have n3_:=Aside0.mk (hbox);have HZ:=Aside0.mk hb.size;have HGB:=Aside0.mk hg;clear HO HK HB hb hbox hg;have HO:=n0_;have HK:=n1_;have HB:=n2_;have BK:=n3_;clear n0_ n1_ n2_ n3_;obtain ⟨hcz9_0,hcz9_1,hcz9_2,hcz9_3,hcz9_4,hcz9_5,hfz9_0,hfz9_1,hfz9_2,hfz9_3,hfz9_4,hfz9_5⟩:=bz6_ BK))
      have GE:=Aside0.mk (show w.heap.size ≤ gb by rw [HGB.out];exact HB0.out.size)
      have fr:=far6 (W:=w8) gb (.int .i64 x.f0) (.int .i64 x.f1) (.int .i64 x.f2) (.int .i64 x.f3) (.slice A4 x.f4.length c4) (.slice A5 x.f5.length c5)
      have n0_:=Aside0.mk (own_move HO.out (w1:=((((((w8.setCell ⟨gb,0,none⟩ (.int .i64 x.f0)).setCell ⟨gb,1,none⟩ (.int .i64 x.f1)).setCell ⟨gb,2,none⟩ (.int .i64 x.f2)).setCell ⟨gb,3,none⟩ (.int .i64 x.f3)).setCell ⟨gb,4,none⟩ (.slice A4 x.f4.length c4)).setCell ⟨gb,5,none⟩ (.slice A5 x.f5.length c5))) (fun k hk=>fr.1 k (by have:=HGB.out;have:=HUB.out k hk;omega)))
      have n2_:=Aside0.mk (HK.out.frame (W':=((((((w8.setCell ⟨gb,0,none⟩ (.int .i64 x.f0)).setCell ⟨gb,1,none⟩ (.int .i64 x.f1)).setCell ⟨gb,2,none⟩ (.int .i64 x.f2)).setCell ⟨gb,3,none⟩ (.int .i64 x.f3)).setCell ⟨gb,4,none⟩ (.slice A4 x.f4.length c4)).setCell ⟨gb,5,none⟩ (.slice A5 x.f5.length c5))) (fun k hk _=>fr.1 k (by have:=HGB.out;omega)))
      have n1_ : Aside0 (((((((w8.setCell ⟨gb,0,none⟩ (.int .i64 x.f0)).setCell ⟨gb,1,none⟩ (.int .i64 x.f1)).setCell ⟨gb,2,none⟩ (.int .i64 x.f2)).setCell ⟨gb,3,none⟩ (.int .i64 x.f3)).setCell ⟨gb,4,none⟩ (.slice A4 x.f4.length c4)).setCell ⟨gb,5,none⟩ (.slice A5 x.f5.length c5)).heap[gb]? = some (.cells #[.int .i64 x.f0,.int .i64 x.f1,.int .i64 x.f2,.int .i64 x.f3,.slice A4 x.f4.length c4,.slice A5 x.f5.length c5] 61 (0,0))):=⟨by (with_reducible repeat (first | refine blk_drewN ?_ _ | refine blk_drew ?_ | refine blk_alloc ?_ _));apply bp6_5_;(with_reducible repeat (first | refine blk_drewN ?_ _ | refine blk_drew ?_ | refine blk_alloc ?_ _));apply bp6_4_;(with_reducible repeat (first | refine blk_drewN ?_ _ | refine blk_drew ?_ | refine blk_alloc ?_ _));apply bp6_3_;(with_reducible repeat (first | refine blk_drewN ?_ _ | refine blk_drew ?_ | refine blk_alloc ?_ _));apply bp6_2_;(with_reducible repeat (first | refine blk_drewN ?_ _ | refine blk_drew ?_ | refine blk_alloc ?_ _));apply bp6_1_;(with_reducible repeat (first | refine blk_drewN ?_ _ | refine blk_drew ?_ | refine blk_alloc ?_ _));apply bp6_0_;(with_reducible repeat (first | refine blk_drewN ?_ _ | refine blk_drew ?_ | refine blk_alloc ?_ _));exact BK.out⟩
      have n3_ : Aside0 (Below w.heap.size w ((((((w8.setCell ⟨gb,0,none⟩ (.int .i64 x.f0)).setCell ⟨gb,1,none⟩ (.int .i64 x.f1)).setCell ⟨gb,2,none⟩ (.int .i64 x.f2)).setCell ⟨gb,3,none⟩ (.int .i64 x.f3)).setCell ⟨gb,4,none⟩ (.slice A4 x.f4.length c4)).setCell ⟨gb,5,none⟩ (.slice A5 x.f5.length c5))):=⟨by repeat (first | (with_reducible first | exact HB.out | apply below_alloc | apply pw_below_drewN | apply below_drew1 | refine below_set ?_ GE.out) | exact HB.out)⟩
      have n4_:=Aside0.mk (show wr.heap.size ≤ (((((((w8.setCell ⟨gb,0,none⟩ (.int .i64 x.f0)).setCell ⟨gb,1,none⟩ (.int .i64 x.f1)).setCell ⟨gb,2,none⟩ (.int .i64 x.f2)).setCell ⟨gb,3,none⟩ (.int .i64 x.f3)).setCell ⟨gb,4,none⟩ (.slice A4 x.f4.length c4)).setCell ⟨gb,5,none⟩ (.slice A5 x.f5.length c5))).heap.size by rw [fr.2];exact HZ.out)
      have HGS:=Aside0.mk (show gb < (((((((w8.setCell ⟨gb,0,none⟩ (.int .i64 x.f0)).setCell ⟨gb,1,none⟩ (.int .i64 x.f1)).setCell ⟨gb,2,none⟩ (.int .i64 x.f2)).setCell ⟨gb,3,none⟩ (.int .i64 x.f3)).setCell ⟨gb,4,none⟩ (.slice A4 x.f4.length c4)).setCell ⟨gb,5,none⟩ (.slice A5 x.f5.length c5))).heap.size from (Array.getElem?_eq_some_iff.1 n1_.out).1)
      clear HO HK BK HB HZ fr
      generalize ((((((w8.setCell ⟨gb,0,none⟩ (.int .i64 x.f0)).setCell ⟨gb,1,none⟩ (.int .i64 x.f1)).setCell ⟨gb,2,none⟩ (.int .i64 x.f2)).setCell ⟨gb,3,none⟩ (.int .i64 x.f3)).setCell ⟨gb,4,none⟩ (.slice A4 x.f4.length c4)).setCell ⟨gb,5,none⟩ (.slice A5 x.f5.length c5)) = w10 at n0_ n1_ n2_ n3_ n4_ HGS ⊢
      have HO:=Aside0.mk (pw_own_below n0_.out (below_drew1 (Below.refl _ _)))
      have HK:=Aside0.mk (n2_.out.frame (W':=w10.drew) (fun _ _ _=>rfl))
      have BK:=Aside0.mk (blk_drew n1_.out)
      have HB:=Aside0.mk (below_drew1 n3_.out)
      have HZ:=Aside0.mk (show wr.heap.size ≤ w10.drew.heap.size from n4_.out)
      replace HGS:=Aside0.mk (show gb < w10.drew.heap.size from HGS.out)
      clear n0_ n1_ n2_ n3_ n4_
      refine start_ (n:=10) (S:=fun w'=>w'.cell? ⟨gb,0,none⟩ = some (.int .i64 x.f0) ∧ w'.cell? ⟨gb,1,none⟩ = some (.int .i64 x.f1) ∧ w'.cell? ⟨gb,2,none⟩ = some (.int .i64 x.f2) ∧ w'.cell? ⟨gb,3,none⟩ = some (.int .i64 x.f3) ∧ w'.cell? ⟨gb,4,none⟩ = some (.slice A4 x.f4.length c4) ∧ w'.cell? ⟨gb,5,none⟩ = some (.slice A5 x.f5.length c5)) (ds:=[7,9]) #[false,false,false,false,false,false,false,false,false,false] (by kernel_rfl) rfl rfl ⟨(blk_cell BK.out 0).trans rfl,(blk_cell BK.out 1).trans rfl,(blk_cell BK.out 2).trans rfl,(blk_cell BK.out 3).trans rfl,(blk_cell BK.out 4).trans rfl,(blk_cell BK.out 5).trans rfl⟩ (fun hHeld=>?_);refine with_tabW impl_copyStmts.tab5 impl_copyStmts.bits5 (fun HT_ HW_=>?_)
      generalize w10.drew = w11 at HO HK BK HB HZ HGS hHeld ⊢
      refine pure_ (i:=0) (N:=some 12) (v:=?_) (a':=?_) #[true,false,false,false,false,false,false,false,false,false] rfl rfl (any_of HT_.out (by kernel_rfl)) (fun _ _ _ h=>h) (Or.inl ⟨by rfl,?_⟩) ?_ ?_
      rotate_left
      · intro w'
        go_simp
        with_reducible rfl
      rotate_left
      · (try simp only [Act.put,List.setIfInBounds_toArray,List.set_cons_zero,List.set_cons_succ,i64_w,i32_w])
        rfl
      refine pure_ (i:=3) (N:=some 15) (v:=?_) (a':=?_) #[true,false,false,true,false,false,false,false,false,false] rfl rfl (any_of HT_.out (by kernel_rfl)) (fun _ _ _ h=>h) (Or.inl ⟨by rfl,?_⟩) ?_ ?_
      rotate_left
      · intro w'
        go_simp
        with_reducible rfl
      rotate_left
      · (try simp only [Act.put,List.setIfInBounds_toArray,List.set_cons_zero,List.set_cons_succ,i64_w,i32_w])
        rfl
      refine take_ (i:=1) (N:=some 13) (v:=?_) (a':=?_) #[true,true,false,true,false,false,false,false,false,false] rfl rfl (take_ofW HT_.out HW_.out (by kernel_rfl)) (fun _ _ _ h=>h) (Or.inl ⟨by rfl,?_⟩) hHeld ?_ ?_
      rotate_left
      · rintro w' ⟨s0,s1,s2,s3,s4,s5⟩
        go_simp
        with_reducible rfl
      rotate_left
      · (try simp only [Act.put,List.setIfInBounds_toArray,List.set_cons_zero,List.set_cons_succ,i64_w,i32_w])
        rfl
      refine take_ (i:=4) (N:=some 16) (v:=?_) (a':=?_) #[true,true,false,true,true,false,false,false,false,false] rfl rfl (take_ofW HT_.out HW_.out (by kernel_rfl)) (fun _ _ _ h=>h) (Or.inl ⟨by rfl,?_⟩) hHeld ?_ ?_
      rotate_left
      · rintro w' ⟨s0,s1,s2,s3,s4,s5⟩
        go_simp
        with_reducible rfl
      rotate_left
      · (try simp only [Act.put,List.setIfInBounds_toArray,List.set_cons_zero,List.set_cons_succ,i64_w,i32_w])
        rfl
      refine one_ (i:=2) (N:=some 14) #[true,true,true,true,true,false,false,false,false,false] rfl rfl (one_of HT_.out (by kernel_rfl)) (by decide) (fun K hK=>?_)
      refine goes_ Try.func41 (by kernel_rfl) rfl #[.slice A4 x.f4.length c4] (by rfl) rfl rfl (by (try simp only [List.map_toArray,List.map_cons,List.map_nil]);first | done | rfl | (simp only [List.length_drop,List.length_take];rfl)) ?_
      with_reducible refine (HIH.out _ _ x.f4 _ ?side1 ?side2 HD4.out).mono ?_
      (case side1=>exact Kd.C_below HC4.out HB.out)
      (case side2=>exact HL4.out)
      rintro e w12 ⟨va,rfl,ht,hb⟩
      refine ⟨_,rfl,?_⟩
      have n0_:=Aside0.mk (pw_own_below HO.out hb)
      have n1_:=Aside0.mk (HK.out.frame (fun k hk _=>hb.block k (Nat.lt_of_lt_of_le hk HZ.out)))
      have n2_:=Aside0.mk (blk_below BK.out hb)
      have n3_:=Aside0.mk (below_step HB.out hb)
      have HT4:=Aside0.mk ht
      have HE1:=Aside0.mk hb.size
      clear HO HK BK HB hb ht
      have HO:=n0_
      have HK:=n1_
      have BK:=n2_
      have HB:=n3_
      clear n0_ n1_ n2_ n3_
      refine hK.out _ _ ⟨(blk_cell BK.out 0).trans rfl,(blk_cell BK.out 1).trans rfl,(blk_cell BK.out 2).trans rfl,(blk_cell BK.out 3).trans rfl,(blk_cell BK.out 4).trans rfl,(blk_cell BK.out 5).trans rfl⟩ (fun hHeld=>?_)
      clear hK K
      refine norm_ (a':=?_) ?_ ?_
      rotate_left
      · show Act.put _ (some 14) _ = _
        simp only [Act.put,List.setIfInBounds_toArray,List.set_cons_zero,List.set_cons_succ,i64_w,i32_w]
        rfl
      refine pure_ (i:=6) (N:=some 18) (v:=?_) (a':=?_) #[true,true,true,true,true,false,true,false,false,false] rfl rfl (any_of HT_.out (by kernel_rfl)) (fun _ _ _ h=>h) (Or.inl ⟨by rfl,?_⟩) ?_ ?_
      rotate_left
      · intro w'
        go_simp
        with_reducible rfl
      rotate_left
      · (try simp only [Act.put,List.setIfInBounds_toArray,List.set_cons_zero,List.set_cons_succ,i64_w,i32_w])
        rfl
      refine one_ (i:=5) (N:=some 17) #[true,true,true,true,true,true,true,false,false,false] rfl rfl (one_of HT_.out (by kernel_rfl)) (by decide) (fun K hK=>?_)
      refine goes_ Try.func41 (by kernel_rfl) rfl #[.slice A5 x.f5.length c5] (by rfl) rfl rfl (by (try simp only [List.map_toArray,List.map_cons,List.map_nil]);first | done | rfl | (simp only [List.length_drop,List.length_take];rfl)) ?_
      with_reducible refine (HIH.out _ _ x.f5 _ ?side1 ?side2 HD5.out).mono ?_
      (case side1=>exact Kd.C_below HC5.out HB.out)
      (case side2=>exact HL5.out)
      rintro e w13 ⟨vb,rfl,ht,hb⟩
      refine ⟨_,rfl,?_⟩
      have n0_:=Aside0.mk (pw_own_below HO.out hb)
      have n1_:=Aside0.mk (HK.out.frame (fun k hk _=>hb.block k (Nat.lt_of_lt_of_le hk (Nat.le_trans HZ.out HE1.out))))
      have n2_:=Aside0.mk (blk_below BK.out hb)
      have n3_:=Aside0.mk (below_step HB.out hb)
      have n4_:=Aside0.mk (Tr.frT d _ _ _ _ _ HT4.out (fun k hk=>hb.block k hk.2))
      have HT5:=Aside0.mk ht
      have HE2:=Aside0.mk hb.size
      clear HO HK BK HB HT4 hb ht
      have HT4:=n4_
      have HO:=n0_
      have HK:=n1_
      have BK:=n2_
      have HB:=n3_
      clear n0_ n1_ n2_ n3_
      obtain ⟨Aa,ca,ea⟩:=HT4.out.slice
      subst ea
      obtain ⟨Ab,cb,eb⟩:=HT5.out.slice
      subst eb
      refine hK.out _ _ ⟨(blk_cell BK.out 0).trans rfl,(blk_cell BK.out 1).trans rfl,(blk_cell BK.out 2).trans rfl,(blk_cell BK.out 3).trans rfl,(blk_cell BK.out 4).trans rfl,(blk_cell BK.out 5).trans rfl⟩ (fun hHeld=>?_)
      clear hK K
      refine norm_ (a':=?_) ?_ ?_
      rotate_left
      · show Act.put _ (some 17) _ = _
        simp only [Act.put,List.setIfInBounds_toArray,List.set_cons_zero,List.set_cons_succ,i64_w,i32_w]
        rfl
      refine last_ (i:=7) (N:=none) #[true,true,true,true,true,true,true,true,false,false] rfl rfl (one_of HT_.out (by kernel_rfl)) (by decide) (fun K hK=>?_)
      have hs15 : w13.cell? ⟨gb,4,none⟩ = some (.slice A4 x.f4.length c4):=(blk_cell BK.out 4).trans rfl;have hfs15:=blk_frozen BK.out 4
      refine skip_ (w1:=?_) (by rfl) rfl ?_ ?_
      rotate_left
      · go_simp
        rfl
      refine hK.out _ _ ?_
      clear hK K
      refine pure_ (i:=8) (N:=some 19) (v:=?_) (a':=?_) #[true,true,true,true,true,true,true,true,true,false] rfl rfl (any_of HT_.out (by kernel_rfl)) (fun _ _ _ h=>h) (Or.inl ⟨by rfl,?_⟩) ?_ ?_
      rotate_left
      · intro w'
        go_simp
        with_reducible rfl
      rotate_left
      · (try simp only [Act.put,List.setIfInBounds_toArray,List.set_cons_zero,List.set_cons_succ,i64_w,i32_w])
        rfl
      refine last_ (i:=9) (N:=none) #[true,true,true,true,true,true,true,true,true,true] rfl rfl (one_of HT_.out (by kernel_rfl)) (by decide) (fun K hK=>?_)
      have hs17 : w13.cell? ⟨gb,5,none⟩ = some (.slice A5 x.f5.length c5):=(blk_cell BK.out 5).trans rfl;have hfs17:=blk_frozen BK.out 5
      refine skip_ (w1:=?_) (by rfl) rfl ?_ ?_
      rotate_left
      · go_simp
        rfl
      refine hK.out _ _ ?_
      clear hK K
      refine done_ (done_of HT_.out (by kernel_rfl)) ?_
      have fr:=far2 (W:=w13) gb (.slice Aa x.f4.length ca) (.slice Ab x.f5.length cb)
      have n0_:=Aside0.mk (own_move HO.out (w1:=((w13.setCell ⟨gb,4,none⟩ (.slice Aa x.f4.length ca)).setCell ⟨gb,5,none⟩ (.slice Ab x.f5.length cb))) (fun k hk=>fr.1 k (by have:=HGB.out;have:=HUB.out k hk;omega)))
      have n1_:=Aside0.mk (HK.out.frame (W':=((w13.setCell ⟨gb,4,none⟩ (.slice Aa x.f4.length ca)).setCell ⟨gb,5,none⟩ (.slice Ab x.f5.length cb))) (fun k hk _=>fr.1 k (by have:=HGB.out;omega)))
      have n2_:=Aside0.mk (Tr.frT d _ (((w13.setCell ⟨gb,4,none⟩ (.slice Aa x.f4.length ca)).setCell ⟨gb,5,none⟩ (.slice Ab x.f5.length cb))) _ _ _ HT4.out (fun k hk=>fr.1 k (by have:=HGS.out;omega)))
      have n3_ : Aside0 (((w13.setCell ⟨gb,4,none⟩ (.slice Aa x.f4.length ca)).setCell ⟨gb,5,none⟩ (.slice Ab x.f5.length cb)).heap[gb]? = some (.cells #[.int .i64 x.f0,.int .i64 x.f1,.int .i64 x.f2,.int .i64 x.f3,.slice Aa x.f4.length ca,.slice Ab x.f5.length cb] 61 (0,0))):=⟨by (with_reducible repeat (first | refine blk_drewN ?_ _ | refine blk_drew ?_ | refine blk_alloc ?_ _));apply bp6_5_;(with_reducible repeat (first | refine blk_drewN ?_ _ | refine blk_drew ?_ | refine blk_alloc ?_ _));apply bp6_4_;(with_reducible repeat (first | refine blk_drewN ?_ _ | refine blk_drew ?_ | refine blk_alloc ?_ _));exact BK.out⟩
      have n4_:=Aside0.mk (Tr.frT d _ (((w13.setCell ⟨gb,4,none⟩ (.slice Aa x.f4.length ca)).setCell ⟨gb,5,none⟩ (.slice Ab x.f5.length cb))) _ _ _ HT5.out (fun k hk=>fr.1 k (by have:=HGS.out;have:=HE1.out;omega)))
      have n5_ : Aside0 (Below w.heap.size w ((w13.setCell ⟨gb,4,none⟩ (.slice Aa x.f4.length ca)).setCell ⟨gb,5,none⟩ (.slice Ab x.f5.length cb))):=⟨by repeat (first | (with_reducible first | exact HB.out | apply below_alloc | apply pw_below_drewN | apply below_drew1 | refine below_set ?_ GE.out) | exact HB.out)⟩
      have HE3:=Aside0.mk (show (((w13.setCell ⟨gb,4,none⟩ (.slice Aa x.f4.length ca)).setCell ⟨gb,5,none⟩ (.slice Ab x.f5.length cb))).heap.size = w13.heap.size from fr.2)
      clear HO HK BK HB HT4 HT5 fr
      generalize ((w13.setCell ⟨gb,4,none⟩ (.slice Aa x.f4.length ca)).setCell ⟨gb,5,none⟩ (.slice Ab x.f5.length cb)) = w18 at n0_ n1_ n2_ n3_ n4_ n5_ HE3 ⊢
      have HO:=n0_
      have HK:=n1_
      have HT4:=n2_
      have BK:=n3_
      have HT5:=n4_
      have HB:=n5_
      clear n0_ n1_ n2_ n3_ n4_ n5_
      have hcz19_0 : w18.cell? ⟨gb,0,none⟩ = some (.int .i64 x.f0):=(blk_cell BK.out 0).trans rfl
      have hcz19_1 : w18.cell? ⟨gb,1,none⟩ = some (.int .i64 x.f1):=(blk_cell BK.out 1).trans rfl
      have hcz19_2 : w18.cell? ⟨gb,2,none⟩ = some (.int .i64 x.f2):=(blk_cell BK.out 2).trans rfl
      have hcz19_3 : w18.cell? ⟨gb,3,none⟩ = some (.int .i64 x.f3):=(blk_cell BK.out 3).trans rfl
      have hcz19_4 : w18.cell? ⟨gb,4,none⟩ = some (.slice Aa x.f4.length ca):=(blk_cell BK.out 4).trans rfl
      have hcz19_5 : w18.cell? ⟨gb,5,none⟩ = some (.slice Ab x.f5.length cb):=(blk_cell BK.out 5).trans rfl
      go_wp2_with (first | ((with_reducible refine gate_builtin (b:=.append) (xs:=#[.tmp 20,.tmp 22]) rfl ?_);at_builtin;refine print_append_cells w.heap.size rfl (.tmp 20) (.tmp 22) 41 61 (.agg #[(.int .i64 0),(.int .i64 0),(.int .i64 0),(.int .i64 0),(.slice none 0 0),(.slice none 0 0)]) 6 80 rfl Try.underlying41 info61 rfl (by decide) (by decide) (.slice Av ys.length cv) ys.length (cellsL ys V4 V5 ys.length) (cellsE x (.slice Aa x.f4.length ca) (.slice Ab x.f5.length cb)) rfl rfl rfl ?aC HO.out HB.out HB.out.size HLM.out ?_;(case aC=>simp [cellsE,Value.oneCell']);intro v1 w19 ho hb hg hat;have n0_:=Aside0.mk ho;have n1_:=Aside0.mk hb;have n2_:=Aside0.mk hg;have n3_:=Aside0.mk hat;clear ho hb hg hat;obtain ⟨A1,c1,rfl⟩:=own_slice n0_.out))
      go_roundg (l0.length - (kk + 1))
      case measure=>omega
      case rel =>
        have hne : ∀ k,wr.heap.size ≤ k → some k ≠ (Value.slice Av ys.length cv).ownBlock:=fun k hk z=>by
          have:=HUB.out k z.symm
          omega
        have s1:=HZ.out
        have s2:=HE1.out
        have s3:=HE2.out
        have s4:=HE3.out
        have k0:=HK.out.frame (W':=w19) (fun k hk hn=>n2_.out.block k (by omega) hn)
        have k4:=Tr.frT d _ w19 _ _ _ HT4.out (fun k hk=>n2_.out.block k (by omega) (hne k (by omega)))
        have k5:=Tr.frT d _ w19 _ _ _ HT5.out (fun k hk=>n2_.out.block k (by omega) (hne k (by omega)))
        have k6:=k0.snoc s1 s2 s3 HB0.out.size k4 k5 (ub':=(Value.slice A1 (ys.length + 1) c1).ownBlock) (by
          rcases n3_.out with e | ⟨b,e,hb⟩
          · exact .inl ⟨e,fun g hg=>HUB.out g hg⟩
          · exact .inr ⟨b,e,by omega⟩)
        have el : (ys ++ [x]).length = ys.length + 1:=by simp
        have hlt2:=HLT.out
        have zz:=n2_.out.size
        have hup : w13.heap.size ≤ w19.heap.size:=by omega
        refine ⟨kk + 1,_,_,_,_,_,ys ++ [x],Nat.succ_le_of_lt hlt2,Nat.le_refl _,rfl,(by rw [wrap_succ (by have:=HF0.out.1;omega)]),⟨HGR.out.symm,by rw [el,HY.out.2]⟩,⟨?_⟩,⟨k6.up hup⟩,n1_⟩
        rw [el,cellsL_snoc]
        exact n0_.out
    · have hltz : decide ((kk : Int) < (l0.length : Int)) = false:=decide_eq_false (by omega)
      have e : ys = l0:=by rw [HY.out.1,show kk = l0.length by omega];exact List.take_length ..
      go_wp2
      go_ret
      exact ⟨_,rfl,by rw [← e];exact HK.out.tr (Nat.le_refl _) HO.out,HB.out⟩
theorem copy_says : ∀ d,CSays d
  | 0=>by
    intro A c l w hr hc hf
    obtain rfl : l = []:=hf
    refine (copy_nil A c w).mono ?_
    rintro e w' ⟨rfl,rfl⟩
    exact ⟨_,rfl,⟨rfl,none,0,rfl⟩,Below.refl _ _⟩
  | d + 1=>copy_of d (copy_says d)
theorem markX_nil (A : Option Addr) (c : Nat) (a : Int) (w : World) : Calls Try.prog 24 #[.slice A 0 c,.int .i64 a] w fun e w'=>e = .returned (.int .i64 a) ∧ w' = w:=by
  go_enter Try.func24,Try.ntmps24
  go_wp2
  go_loopg [1,5] 1 (fun gg v1 v5 wr=>v1 = .int .i64 a ∧ v5 = .int .i64 0 ∧ wr = w)
  case atStart=>exact ⟨rfl,rfl,rfl⟩
  case round =>
    obtain ⟨rfl,rfl,rfl⟩:=hrel
    go_wp2
    go_ret
    exact ⟨rfl,rfl⟩
theorem mkX_len : ∀ d l a,(mkX d l a).1.length = l.length
  | 0,_,_=>rfl
  | d + 1,l,a=>mkLX_len (mkX d) l a
theorem mark_tree : ∀ d,XSays (Tr d) (mkX d)
  | 0=>by
    intro v xs a P w h
    obtain ⟨rfl,A,c,rfl⟩:=h
    refine (markX_nil A c a w).mono ?_
    rintro e w' ⟨rfl,rfl⟩
    exact ⟨rfl,⟨rfl,A,c,rfl⟩,Frm.refl _ _⟩
  | d + 1=>by
    intro v xs a P w h
    obtain ⟨A,cap,rfl,h1,h2,h⟩:=h
    rcases h with rfl | ⟨g,V4,V5,Q4,Q5,rfl,ho⟩
    · refine (markX_nil A cap a w).mono ?_
      rintro e w' ⟨rfl,rfl⟩
      exact ⟨rfl,⟨A,cap,rfl,h1,h2,.inl rfl⟩,Frm.refl _ _⟩
    · refine (markX_op (Tr d) (Tr.frT d) (fun _ _ _ _ z=>z.slice) (mkX d) (mkX_len d) (mark_tree d) g cap xs a P V4 V5 Q4 Q5 w h2 ho).mono ?_
      rintro e w' ⟨rfl,ho',hf⟩
      have el:=mkLX_len (mkX d) xs a
      refine ⟨rfl,⟨some ⟨g,0,none⟩,cap,?_,(show (mkLX (mkX d) xs a).1.length ≤ cap from el ▸ h1),(show (mkLX (mkX d) xs a).1.length ≤ 9223372036854775807 from el ▸ h2),.inr ⟨g,V4,V5,Q4,Q5,rfl,ho'⟩⟩,hf⟩
      show _ = Value.slice _ (mkLX (mkX d) xs a).1.length cap
      rw [el]
def RowG (W : World) (g : Nat) (xs : List Int) : Prop:=∃ cells : Array Value,W.heap[g]? = some (.cells cells 3 (0,0)) ∧ ∀ (i : Nat) (x : Int),xs[i]? = some x → cells[i]? = some (Value.int .i64 x)
def RowI (W : World) (Q : Nat → Prop) (v : Value) (xs : List Int) : Prop:=∃ A cap,v = .slice A xs.length cap ∧ xs.length ≤ cap ∧ xs.length ≤ 9223372036854775807 ∧ (xs = [] ∨ ∃ g,A = some ⟨g,0,none⟩ ∧ Q g ∧ RowG W g xs)
theorem RowG.frame {W W' : World} {g : Nat} {xs : List Int} (h : RowG W g xs) (e : W'.heap[g]? = W.heap[g]?) : RowG W' g xs:=by
  obtain ⟨c,hb,r⟩:=h
  exact ⟨c,e.trans hb,r⟩
theorem RowI.frame {W W' : World} {Q : Nat → Prop} {v : Value} {xs : List Int} (h : RowI W Q v xs) (hf : ∀ k,Q k → W'.heap[k]? = W.heap[k]?) : RowI W' Q v xs:=by
  obtain ⟨A,c,e,h1,h2,h3⟩:=h
  refine ⟨A,c,e,h1,h2,h3.imp_right ?_⟩
  rintro ⟨g,ea,hq,hg⟩
  exact ⟨g,ea,hq,hg.frame (hf g hq)⟩
theorem RowI.mono {W : World} {Q Q' : Nat → Prop} {v : Value} {xs : List Int} (h : RowI W Q v xs) (hf : ∀ k,Q k → Q' k) : RowI W Q' v xs:=by
  obtain ⟨A,c,e,h1,h2,h3⟩:=h
  refine ⟨A,c,e,h1,h2,h3.imp_right ?_⟩
  rintro ⟨g,ea,hq,hg⟩
  exact ⟨g,ea,hf g hq,hg⟩
theorem RowI.slice {W : World} {Q : Nat → Prop} {v : Value} {xs : List Int} (h : RowI W Q v xs) : ∃ A c,v = .slice A xs.length c:=by
  obtain ⟨A,c,e,_⟩:=h
  exact ⟨A,c,e⟩
theorem RowG.at {W : World} {g : Nat} {xs : List Int} (h : RowG W g xs) {i : Nat} (hi : i < xs.length) : W.cell? ⟨g,i,none⟩ = some (.int .i64 (xs.getD i 0)) ∧ W.frozen? ⟨g,i,none⟩ = false:=by
  obtain ⟨c,hb,r⟩:=h
  refine ⟨(blk_cell hb i).trans (r i _ ?_),blk_frozen hb i⟩
  rw [List.getD_eq_getElem?_getD,List.getElem?_eq_getElem hi]
  rfl
theorem RowG.put {W : World} {g : Nat} {xs : List Int} (h : RowG W g xs) (i : Nat) (n : Int) : RowG (W.setCell ⟨g,i,none⟩ (.int .i64 n)) g (xs.set i n):=by
  obtain ⟨c,hb,r⟩:=h
  refine ⟨_,blk_set hb _ _,fun j x hx=>?_⟩
  by_cases e : j = i
  · subst e
    have hl : j < xs.length:=by
      have:=(List.getElem?_eq_some_iff.1 hx).1
      rwa [List.length_set] at this
    rw [List.getElem?_set_self hl] at hx
    obtain rfl:=Option.some.inj hx
    have:=r j _ (List.getElem?_eq_getElem hl)
    rw [Array.getElem?_setIfInBounds_self_of_lt (Array.getElem?_eq_some_iff.1 this).1]
  · rw [List.getElem?_set_ne (fun z=>e z.symm)] at hx
    rw [Array.getElem?_setIfInBounds_ne (fun z=>e z.symm)]
    exact r j x hx
def mkI : List Int → Int → List Int × Int
  | [],a=>([],a)
  | _ :: t,a=>(a :: (mkI t (wrap64 (a + 1))).1,(mkI t (wrap64 (a + 1))).2)
theorem mkI_len : ∀ l a,(mkI l a).1.length = l.length
  | [],_=>rfl
  | _ :: t,a=>by
    show (mkI t _).1.length + 1 = t.length + 1
    rw [mkI_len t]
theorem markI_nil (A : Option Addr) (c : Nat) (a : Int) (w : World) : Calls Try.prog 26 #[.slice A 0 c,.int .i64 a] w fun e w'=>e = .returned (.int .i64 a) ∧ w' = w:=by
  go_enter Try.func26,Try.ntmps26
  go_wp2
  go_loopg [1,5] 1 (fun gg v1 v5 wr=>v1 = .int .i64 a ∧ v5 = .int .i64 0 ∧ wr = w)
  case atStart=>exact ⟨rfl,rfl,rfl⟩
  case round =>
    obtain ⟨rfl,rfl,rfl⟩:=hrel
    go_wp2
    go_ret
    exact ⟨rfl,rfl⟩
set_option maxHeartbeats 2000000 in
set_option maxRecDepth 100000 in
theorem markI_at (g cap : Nat) (xs : List Int) (a : Int) (w : World) (hm : xs.length ≤ 9223372036854775807) (h : RowG w g xs) :
    Calls Try.prog 26 #[.slice (some ⟨g,0,none⟩) xs.length cap,.int .i64 a] w fun e w'=>e = .returned (.int .i64 (mkI xs a).2) ∧ RowG w' g (mkI xs a).1 ∧ Frm (fun k=>k = g) w w':=by
  have HO0:=Aside0.mk h
  clear h
  obtain ⟨R,hR⟩ : ∃ R,R = mkI xs a:=⟨_,rfl⟩
  have HR:=Aside0.mk hR
  go_enter Try.func26,Try.ntmps26
  rw [← hR]
  clear hR
  go_wp2
  go_loopg [1,5] xs.length (fun gg p1 p5 wr=>∃ (kk : Nat) (a1 : Int) (done : List Int),kk ≤ xs.length ∧ xs.length - kk ≤ gg ∧ p1 = .int .i64 a1 ∧ p5 = .int .i64 kk ∧ Aside0 (done.length = kk ∧ R = (done ++ (mkI (xs.drop kk) a1).1,(mkI (xs.drop kk) a1).2)) ∧ Aside0 (RowG wr g (done ++ xs.drop kk)) ∧ Aside0 (Frm (fun k=>k = g) w wr))
  case atStart=>exact ⟨0,a,[],Nat.zero_le _,by omega,rfl,rfl,⟨rfl,HR.out⟩,HO0,⟨Frm.refl _ _⟩⟩
  case round =>
    obtain ⟨kk,a1,done,hkk,hgk,rfl,rfl,HE,HO,HI⟩:=hrel
    clear HO0 HR
    by_cases hlt : kk < xs.length
    · have hltz : decide ((kk : Int) < (xs.length : Int)) = true:=decide_eq_true (by omega)
      have p1 : 0 ≤ (kk : Int):=by omega
      have q1 : (kk : Int) < (xs.length : Int):=by omega
      have he:=HE.out
      have ho:=HO.out
      rw [List.drop_eq_getElem_cons hlt] at he ho
      generalize xs[kk] = x at *
      obtain ⟨hdl,hR⟩:=he
      have hkl : kk < (done ++ x :: xs.drop (kk + 1)).length:=by rw [List.length_append,hdl];simp
      obtain ⟨x0,f0⟩:=ho.at hkl
      have HRR:=Aside0.mk hR
      have HDL:=Aside0.mk hdl
      have HO1:=Aside0.mk ho
      clear ho hR hdl HE HO
      replace p1:=eq_true p1
      replace q1:=eq_true q1
      go_wp2
      go_roundg (xs.length - (kk + 1))
      case measure=>omega
      case rel =>
        refine ⟨kk + 1,wrap64 (a1 + 1),done ++ [a1],by omega,by omega,rfl,by go_num,⟨?_,?_⟩,⟨?_⟩,⟨HI.out.trans (Frm.set (P:=fun k=>k = g) (g:=g) rfl _ _)⟩⟩
        · rw [List.length_append,HDL.out]
          rfl
        · rw [HRR.out,List.append_assoc]
          rfl
        · have z:=HO1.out.put kk a1
          rw [List.append_assoc]
          have e : (done ++ x :: xs.drop (kk + 1)).set kk a1 = done ++ ([a1] ++ xs.drop (kk + 1)):=by
            rw [List.set_append_right _ _ (by rw [HDL.out];exact Nat.le_refl _),HDL.out,Nat.sub_self]
            rfl
          rw [e] at z
          exact z
    · have hltz : decide ((kk : Int) < (xs.length : Int)) = false:=decide_eq_false (by omega)
      have he:=HE.out
      have ho:=HO.out
      rw [List.drop_of_length_le (by omega)] at he ho
      have HRR:=Aside0.mk he.2
      have HO1:=Aside0.mk ho
      clear he ho HE HO
      go_wp2
      go_ret
      rw [HRR.out]
      exact ⟨rfl,HO1.out,HI.out⟩
theorem markI_says (v : Value) (xs : List Int) (a : Int) (Q : Nat → Prop) (w : World) (h : RowI w Q v xs) :
    Calls Try.prog 26 #[v,.int .i64 a] w fun e w'=>e = .returned (.int .i64 (mkI xs a).2) ∧ RowI w' Q v (mkI xs a).1 ∧ Frm Q w w':=by
  obtain ⟨A,cap,rfl,h1,h2,h⟩:=h
  rcases h with rfl | ⟨g,rfl,hq,ho⟩
  · refine (markI_nil A cap a w).mono ?_
    rintro e w' ⟨rfl,rfl⟩
    exact ⟨rfl,⟨A,cap,rfl,h1,h2,.inl rfl⟩,Frm.refl _ _⟩
  · refine (markI_at g cap xs a w h2 ho).mono ?_
    rintro e w' ⟨rfl,ho',hf⟩
    have el:=mkI_len xs a
    refine ⟨rfl,⟨some ⟨g,0,none⟩,cap,?_,(show (mkI xs a).1.length ≤ cap from el ▸ h1),(show (mkI xs a).1.length ≤ 9223372036854775807 from el ▸ h2),.inr ⟨g,rfl,hq,ho'⟩⟩,hf.mono fun k e=>e ▸ hq⟩
    show _ = Value.slice _ (mkI xs a).1.length cap
    rw [el]
def ElP (W : World) (g i : Nat) (x : S59) (v0 v1 : Value) : Prop:=∃ cells,W.heap[g]? = some (.cells cells 59 (0,0)) ∧ cells[i * 5]? = some v0 ∧ cells[i * 5 + 1]? = some v1 ∧ cells[i * 5 + 2]? = some (.int .i64 x.f2) ∧ cells[i * 5 + 3]? = some (.int .i64 x.f3) ∧ cells[i * 5 + 4]? = some (.int .i64 x.f4)
theorem ElP.frame {W W' : World} {g i : Nat} {x : S59} {v0 v1 : Value} (h : ElP W g i x v0 v1) (e : W'.heap[g]? = W.heap[g]?) : ElP W' g i x v0 v1:=by
  obtain ⟨c,hb,r⟩:=h
  exact ⟨c,e.trans hb,r⟩
structure OpP (d : Nat) (W : World) (g : Nat) (P : Nat → Prop) (V0 V1 : Nat → Value) (Q0 Q1 : Nat → Nat → Prop) (xs : List S59) : Prop where
  pg : P g
  el : ∀ i x,xs[i]? = some x → ElP W g i x (V0 i) (V1 i)
  t0 : ∀ i x,xs[i]? = some x → RowI W (Q0 i) (V0 i) x.f0
  t1 : ∀ i x,xs[i]? = some x → Tr d W (Q1 i) (V1 i) x.f1
  s0 : ∀ i k,Q0 i k → P k ∧ k ≠ g
  s1 : ∀ i k,Q1 i k → P k ∧ k ≠ g
  d00 : ∀ i j k,Q0 i k → Q0 j k → i = j
  d11 : ∀ i j k,Q1 i k → Q1 j k → i = j
  d01 : ∀ i j k,Q0 i k → ¬ Q1 j k
theorem OpP.frame {d : Nat} {W W' : World} {g : Nat} {P : Nat → Prop} {V0 V1 : Nat → Value} {Q0 Q1 : Nat → Nat → Prop} {xs : List S59} (h : OpP d W g P V0 V1 Q0 Q1 xs) (hf : ∀ k,P k → W'.heap[k]? = W.heap[k]?) : OpP d W' g P V0 V1 Q0 Q1 xs :=
  { h with
    el:=fun i x hx=>(h.el i x hx).frame (hf g h.pg)
    t0:=fun i x hx=>(h.t0 i x hx).frame fun k hk=>hf k (h.s0 i k hk).1
    t1:=fun i x hx=>Tr.frT d _ _ _ _ _ (h.t1 i x hx) fun k hk=>hf k (h.s1 i k hk).1 }
theorem set_key {α : Type} {xs : List α} {i : Nat} (hlt : i < xs.length) (x' : α) : ∀ j y,(xs.set i x')[j]? = some y → (j = i ∧ y = x') ∨ (j ≠ i ∧ xs[j]? = some y):=fun j y hy=>by
  by_cases e : j = i
  · subst e
    rw [List.getElem?_set_self hlt] at hy
    exact .inl ⟨rfl,(Option.some.inj hy).symm⟩
  · rw [List.getElem?_set_ne (fun z=>e z.symm)] at hy
    exact .inr ⟨e,hy⟩
def setP (x : S59) (j : Nat) (n : Int) : S59:=⟨x.f0,x.f1,if j = 2 then n else x.f2,if j = 3 then n else x.f3,if j = 4 then n else x.f4⟩
theorem OpP.num {d : Nat} {W : World} {g : Nat} {P : Nat → Prop} {V0 V1 : Nat → Value} {Q0 Q1 : Nat → Nat → Prop} {xs : List S59} (h : OpP d W g P V0 V1 Q0 Q1 xs) {i : Nat} {x : S59} (hi : xs[i]? = some x) {j : Nat} (hj : 2 ≤ j ∧ j < 5) (n : Int) : OpP d (W.setCell ⟨g,i * 5 + j,none⟩ (.int .i64 n)) g P V0 V1 Q0 Q1 (xs.set i (setP x j n)):=by
  have hf : ∀ k,k ≠ g → (W.setCell ⟨g,i * 5 + j,none⟩ (.int .i64 n)).heap[k]? = W.heap[k]?:=fun k hk=>Below.heap_setCell W ⟨g,i * 5 + j,none⟩ _ k hk
  have key:=set_key (List.getElem?_eq_some_iff.1 hi).1 (setP x j n)
  refine { h with el:=fun q y hy=>?_,t0:=fun q y hy=>?_,t1:=fun q y hy=>?_ }
  · rcases key q y hy with ⟨rfl,rfl⟩ | ⟨e,hy⟩
    · obtain ⟨c,hb,h0,h1,h2,h3,h4⟩:=h.el q x hi
      have get : ∀ (r : Nat) (u : Value),c[q * 5 + r]? = some u → (c.setIfInBounds (q * 5 + j) (.int .i64 n))[q * 5 + r]? = some (if j = r then .int .i64 n else u):=fun r u hu=>by
        by_cases e : j = r
        · subst e
          rw [if_pos rfl,Array.getElem?_setIfInBounds_self_of_lt (Array.getElem?_eq_some_iff.1 hu).1]
        · rw [if_neg e,Array.getElem?_setIfInBounds_ne (by omega)]
          exact hu
      have int : ∀ (r : Nat) (m : Int),(if j = r then Value.int .i64 n else .int .i64 m) = .int .i64 (if j = r then n else m):=fun r m=>by split <;> rfl
      refine ⟨_,blk_set hb _ _,?_,?_,?_,?_,?_⟩
      · have:=get 0 _ h0
        rw [if_neg (by omega)] at this
        exact this
      · have:=get 1 _ h1
        rw [if_neg (by omega)] at this
        exact this
      · have:=get 2 _ h2
        rw [int] at this
        exact this
      · have:=get 3 _ h3
        rw [int] at this
        exact this
      · have:=get 4 _ h4
        rw [int] at this
        exact this
    · obtain ⟨c,hb,h0,h1,h2,h3,h4⟩:=h.el q y hy
      refine ⟨_,blk_set hb _ _,?_,?_,?_,?_,?_⟩
      all_goals rw [Array.getElem?_setIfInBounds_ne (by show i * 5 + j ≠ _;omega)]
      · exact h0
      · exact h1
      · exact h2
      · exact h3
      · exact h4
  · rcases key q y hy with ⟨rfl,rfl⟩ | ⟨e,hy⟩
    · exact (h.t0 _ x hi).frame fun k hk=>hf k (h.s0 _ k hk).2
    · exact (h.t0 q y hy).frame fun k hk=>hf k (h.s0 q k hk).2
  · rcases key q y hy with ⟨rfl,rfl⟩ | ⟨e,hy⟩
    · exact Tr.frT d _ _ _ _ _ (h.t1 _ x hi) fun k hk=>hf k (h.s1 _ k hk).2
    · exact Tr.frT d _ _ _ _ _ (h.t1 q y hy) fun k hk=>hf k (h.s1 q k hk).2
theorem OpP.sub0 {d : Nat} {W W' : World} {g : Nat} {P : Nat → Prop} {V0 V1 : Nat → Value} {Q0 Q1 : Nat → Nat → Prop} {xs : List S59} (h : OpP d W g P V0 V1 Q0 Q1 xs) {i : Nat} {x : S59} (hi : xs[i]? = some x) {zs : List Int} (ht : RowI W' (Q0 i) (V0 i) zs) (hf : ∀ k,¬ Q0 i k → W'.heap[k]? = W.heap[k]?) : OpP d W' g P V0 V1 Q0 Q1 (xs.set i ⟨zs,x.f1,x.f2,x.f3,x.f4⟩):=by
  have hg : W'.heap[g]? = W.heap[g]?:=hf g fun z=>(h.s0 i g z).2 rfl
  have key:=set_key (List.getElem?_eq_some_iff.1 hi).1 (⟨zs,x.f1,x.f2,x.f3,x.f4⟩ : S59)
  refine { h with el:=fun j y hy=>?_,t0:=fun j y hy=>?_,t1:=fun j y hy=>?_ }
  · rcases key j y hy with ⟨rfl,rfl⟩ | ⟨e,hy⟩
    · exact (h.el _ x hi).frame hg
    · exact (h.el j y hy).frame hg
  · rcases key j y hy with ⟨rfl,rfl⟩ | ⟨e,hy⟩
    · exact ht
    · exact (h.t0 j y hy).frame fun k hk=>hf k fun z=>e (h.d00 j i k hk z)
  · rcases key j y hy with ⟨rfl,rfl⟩ | ⟨e,hy⟩
    · exact Tr.frT d _ _ _ _ _ (h.t1 _ x hi) fun k hk=>hf k fun z=>h.d01 _ _ k z hk
    · exact Tr.frT d _ _ _ _ _ (h.t1 j y hy) fun k hk=>hf k fun z=>h.d01 _ _ k z hk
theorem OpP.sub1 {d : Nat} {W W' : World} {g : Nat} {P : Nat → Prop} {V0 V1 : Nat → Value} {Q0 Q1 : Nat → Nat → Prop} {xs : List S59} (h : OpP d W g P V0 V1 Q0 Q1 xs) {i : Nat} {x : S59} (hi : xs[i]? = some x) {zs : List S61} (ht : Tr d W' (Q1 i) (V1 i) zs) (hf : ∀ k,¬ Q1 i k → W'.heap[k]? = W.heap[k]?) : OpP d W' g P V0 V1 Q0 Q1 (xs.set i ⟨x.f0,zs,x.f2,x.f3,x.f4⟩):=by
  have hg : W'.heap[g]? = W.heap[g]?:=hf g fun z=>(h.s1 i g z).2 rfl
  have key:=set_key (List.getElem?_eq_some_iff.1 hi).1 (⟨x.f0,zs,x.f2,x.f3,x.f4⟩ : S59)
  refine { h with el:=fun j y hy=>?_,t0:=fun j y hy=>?_,t1:=fun j y hy=>?_ }
  · rcases key j y hy with ⟨rfl,rfl⟩ | ⟨e,hy⟩
    · exact (h.el _ x hi).frame hg
    · exact (h.el j y hy).frame hg
  · rcases key j y hy with ⟨rfl,rfl⟩ | ⟨e,hy⟩
    · exact (h.t0 _ x hi).frame fun k hk=>hf k fun z=>h.d01 _ _ k hk z
    · exact (h.t0 j y hy).frame fun k hk=>hf k fun z=>h.d01 _ _ k hk z
  · rcases key j y hy with ⟨rfl,rfl⟩ | ⟨e,hy⟩
    · exact ht
    · exact Tr.frT d _ _ _ _ _ (h.t1 j y hy) fun k hk=>hf k fun z=>e (h.d11 j i k hk z)
def mkPE (d : Nat) (x : S59) (a : Int) : S59 × Int :=
  let r0:=mkI x.f0 a
  let r1:=mkX d x.f1 r0.2
  (⟨r0.1,r1.1,r1.2,wrap64 (r1.2 + 1),wrap64 (wrap64 (r1.2 + 1) + 1)⟩,wrap64 (wrap64 (wrap64 (r1.2 + 1) + 1) + 1))
def mkPL (d : Nat) : List S59 → Int → List S59 × Int
  | [],a=>([],a)
  | x :: t,a=>((mkPE d x a).1 :: (mkPL d t (mkPE d x a).2).1,(mkPL d t (mkPE d x a).2).2)
theorem mkPL_len (d : Nat) : ∀ l a,(mkPL d l a).1.length = l.length
  | [],_=>rfl
  | x :: t,a=>by
    show (mkPL d t _).1.length + 1 = t.length + 1
    rw [mkPL_len d t]
theorem RowI.reads {W : World} {Q : Nat → Prop} {A : Option Addr} {c : Nat} {xs : List Int} (h : RowI W Q (.slice A xs.length c) xs) : (Kd.int .i64).C W A xs.length xs ∧ xs.length ≤ c:=by
  obtain ⟨A',c',e,h1,h2,h3⟩:=h
  injection e with ea _ ec
  subst ea;subst ec
  refine ⟨⟨rfl,h2,fun hn=>?_⟩,h1⟩
  rcases h3 with rfl | ⟨g,rfl,_,cells,hb,hr⟩
  · exact absurd hn (Nat.lt_irrefl 0)
  · refine ⟨⟨g,0,none⟩,rfl,fun j p hj=>⟨[.int .i64 p],rfl,rfl,fun i u hu=>?_⟩⟩
    have i0 : i = 0:=by
      rcases i with _ | i
      · rfl
      · simp at hu
    subst i0
    obtain rfl : u = .int .i64 p:=by simpa using hu.symm
    rw [add_plain,blk_cell hb]
    have e : j * (Kd.int .i64).sz + 0 = j:=Nat.mul_one j
    rw [e]
    exact hr j p hj
theorem Tr.cap : ∀ {d : Nat} {W : World} {P : Nat → Prop} {A : Option Addr} {c : Nat} {xs : List S61},Tr d W P (.slice A xs.length c) xs → xs.length ≤ c
  | 0,_,_,_,_,_,h=>by rw [h.1];exact Nat.zero_le _
  | _ + 1,_,_,_,_,_,⟨_,_,e,h1,_⟩=>by
    injection e with _ _ ec
    rw [ec]
    exact h1
theorem Tr.reads : ∀ (d : Nat) {W : World} {P : Nat → Prop} {A : Option Addr} {c : Nat} {xs : List S61},Tr d W P (.slice A xs.length c) xs → k61.C W A xs.length xs
  | 0,W,P,A,c,xs,h=>by
    obtain ⟨rfl,_⟩:=h
    exact ⟨rfl,by simp,fun hn=>absurd hn (Nat.lt_irrefl 0)⟩
  | d + 1,W,P,A,c,xs,h=>by
    obtain ⟨A',c',e,h1,h2,h3⟩:=h
    injection e with ea _ ec
    subst ea;subst ec
    refine ⟨rfl,h2,fun hn=>?_⟩
    rcases h3 with rfl | ⟨g,V4,V5,Q4,Q5,rfl,ho⟩
    · exact absurd hn (Nat.lt_irrefl 0)
    · refine ⟨⟨g,0,none⟩,rfl,fun j p hj=>?_⟩
      obtain ⟨cells,hb,e0,e1,e2,e3,e4,e5⟩:=ho.el j p hj
      have t4:=ho.t4 j p hj
      have t5:=ho.t5 j p hj
      obtain ⟨A4,c4,v4⟩:=t4.slice
      obtain ⟨A5,c5,v5⟩:=t5.slice
      rw [v4] at t4 e4
      rw [v5] at t5 e5
      refine ⟨_,rfl,k61_mk W p t4.cap (Tr.reads d t4) t5.cap (Tr.reads d t5),fun i u hu=>?_⟩
      rw [add_plain,blk_cell hb]
      show cells[j * 6 + i]? = some u
      match i,hu with
      | 0,hu=>obtain rfl:=Option.some.inj hu;exact e0
      | 1,hu=>obtain rfl:=Option.some.inj hu;exact e1
      | 2,hu=>obtain rfl:=Option.some.inj hu;exact e2
      | 3,hu=>obtain rfl:=Option.some.inj hu;exact e3
      | 4,hu=>obtain rfl:=Option.some.inj hu;exact e4
      | 5,hu=>obtain rfl:=Option.some.inj hu;exact e5
      | _ + 6,hu=>simp at hu
def RowP (d : Nat) (W : World) (P : Nat → Prop) (v : Value) (xs : List S59) : Prop:=∃ A cap,v = .slice A xs.length cap ∧ xs.length ≤ cap ∧ xs.length ≤ 9223372036854775807 ∧ (xs = [] ∨ ∃ g V0 V1 Q0 Q1,A = some ⟨g,0,none⟩ ∧ OpP d W g P V0 V1 Q0 Q1 xs)
theorem RowP.reads {d : Nat} {W : World} {P : Nat → Prop} {A : Option Addr} {c : Nat} {xs : List S59} (h : RowP d W P (.slice A xs.length c) xs) : k59.C W A xs.length xs ∧ xs.length ≤ c:=by
  obtain ⟨A',c',e,h1,h2,h3⟩:=h
  injection e with ea _ ec
  subst ea;subst ec
  refine ⟨⟨rfl,h2,fun hn=>?_⟩,h1⟩
  rcases h3 with rfl | ⟨g,V0,V1,Q0,Q1,rfl,ho⟩
  · exact absurd hn (Nat.lt_irrefl 0)
  · refine ⟨⟨g,0,none⟩,rfl,fun j p hj=>?_⟩
    obtain ⟨cells,hb,e0,e1,e2,e3,e4⟩:=ho.el j p hj
    have t0:=ho.t0 j p hj
    have t1:=ho.t1 j p hj
    obtain ⟨A0,c0,v0⟩:=t0.slice
    obtain ⟨A1,c1,v1⟩:=t1.slice
    rw [v0] at t0 e0
    rw [v1] at t1 e1
    refine ⟨_,rfl,k59_mk W p t0.reads.2 t0.reads.1 t1.cap (Tr.reads d t1),fun i u hu=>?_⟩
    rw [add_plain,blk_cell hb]
    show cells[j * 5 + i]? = some u
    match i,hu with
    | 0,hu=>obtain rfl:=Option.some.inj hu;exact e0
    | 1,hu=>obtain rfl:=Option.some.inj hu;exact e1
    | 2,hu=>obtain rfl:=Option.some.inj hu;exact e2
    | 3,hu=>obtain rfl:=Option.some.inj hu;exact e3
    | 4,hu=>obtain rfl:=Option.some.inj hu;exact e4
    | _ + 5,hu=>simp at hu
theorem RowP.frame {d : Nat} {W W' : World} {P : Nat → Prop} {v : Value} {xs : List S59} (h : RowP d W P v xs) (hf : ∀ k,P k → W'.heap[k]? = W.heap[k]?) : RowP d W' P v xs:=by
  obtain ⟨A,c,e,h1,h2,h3⟩:=h
  refine ⟨A,c,e,h1,h2,h3.imp_right ?_⟩
  rintro ⟨g,V0,V1,Q0,Q1,ea,ho⟩
  exact ⟨g,V0,V1,Q0,Q1,ea,ho.frame hf⟩
theorem OpP.at {d : Nat} {W : World} {g : Nat} {P : Nat → Prop} {V0 V1 : Nat → Value} {Q0 Q1 : Nat → Nat → Prop} {zs : List S59} (h : OpP d W g P V0 V1 Q0 Q1 zs) {i : Nat} {x : S59} (hi : zs[i]? = some x) :
    W.cell? ⟨g,i * 5,none⟩ = some (V0 i) ∧ W.cell? ⟨g,i * 5 + 1,none⟩ = some (V1 i) ∧ (W.cell? ⟨g,i * 5 + 2,none⟩ = some (.int .i64 x.f2) ∧ W.frozen? ⟨g,i * 5 + 2,none⟩ = false) ∧ (W.cell? ⟨g,i * 5 + 3,none⟩ = some (.int .i64 x.f3) ∧ W.frozen? ⟨g,i * 5 + 3,none⟩ = false) ∧ (W.cell? ⟨g,i * 5 + 4,none⟩ = some (.int .i64 x.f4) ∧ W.frozen? ⟨g,i * 5 + 4,none⟩ = false):=by
  obtain ⟨cs,hb,h0,h1,h2,h3,h4⟩:=h.el i x hi
  have get : ∀ q v,cs[q]? = some v → W.cell? ⟨g,q,none⟩ = some v ∧ W.frozen? ⟨g,q,none⟩ = false:=fun q v hv=>⟨(blk_cell hb q).trans hv,blk_frozen hb q⟩
  exact ⟨(get _ _ h0).1,(get _ _ h1).1,get _ _ h2,get _ _ h3,get _ _ h4⟩
theorem OpP.step {d : Nat} {W : World} {g : Nat} {P : Nat → Prop} {V0 V1 : Nat → Value} {Q0 Q1 : Nat → Nat → Prop} {ys : List S59} {i : Nat} {x : S59} (h : OpP d W g P V0 V1 Q0 Q1 (ys.set i x)) (hi : i < ys.length) {j : Nat} (hj : 2 ≤ j ∧ j < 5) (n : Int) : OpP d (W.setCell ⟨g,i * 5 + j,none⟩ (.int .i64 n)) g P V0 V1 Q0 Q1 (ys.set i (setP x j n)):=by
  have:=h.num (get_set hi x) hj n
  rwa [set_set] at this
set_option maxHeartbeats 2000000 in
set_option maxRecDepth 100000 in
theorem markP_op (d g cap : Nat) (xs : List S59) (a : Int) (P : Nat → Prop) (V0 V1 : Nat → Value) (Q0 Q1 : Nat → Nat → Prop) (w : World) (hm : xs.length ≤ 9223372036854775807) (h : OpP d w g P V0 V1 Q0 Q1 xs) :
    Calls Try.prog 25 #[.slice (some ⟨g,0,none⟩) xs.length cap,.int .i64 a] w fun e w'=>e = .returned (.int .i64 (mkPL d xs a).2) ∧ OpP d w' g P V0 V1 Q0 Q1 (mkPL d xs a).1 ∧ Frm P w w':=by
  have HO0:=Aside0.mk h
  clear h
  obtain ⟨R,hR⟩ : ∃ R,R = mkPL d xs a:=⟨_,rfl⟩
  have HR:=Aside0.mk hR
  go_enter Try.func25,Try.ntmps25
  rw [← hR]
  clear hR
  go_wp2
  go_loopg [1,5] xs.length (fun gg p1 p5 wr=>∃ (kk : Nat) (a1 : Int) (done : List S59),kk ≤ xs.length ∧ xs.length - kk ≤ gg ∧ p1 = .int .i64 a1 ∧ p5 = .int .i64 kk ∧ Aside0 (done.length = kk ∧ R = (done ++ (mkPL d (xs.drop kk) a1).1,(mkPL d (xs.drop kk) a1).2)) ∧ Aside0 (OpP d wr g P V0 V1 Q0 Q1 (done ++ xs.drop kk)) ∧ Aside0 (Frm P w wr))
  case atStart=>exact ⟨0,a,[],Nat.zero_le _,by omega,rfl,rfl,⟨rfl,HR.out⟩,HO0,⟨Frm.refl _ _⟩⟩
  case round =>
    obtain ⟨kk,a1,done,hkk,hgk,rfl,rfl,HE,HO,HI⟩:=hrel
    clear HO0 HR
    by_cases hlt : kk < xs.length
    · have hltz : decide ((kk : Int) < (xs.length : Int)) = true:=decide_eq_true (by omega)
      have p1 : 0 ≤ (kk : Int):=by omega
      have q1 : (kk : Int) < (xs.length : Int):=by omega
      have he:=HE.out
      have ho:=HO.out
      rw [List.drop_eq_getElem_cons hlt] at he ho
      generalize xs[kk] = x at *
      obtain ⟨hdl,hR⟩:=he
      have hkl : kk < (done ++ x :: xs.drop (kk + 1)).length:=by rw [List.length_append,hdl];simp
      have hkx : (done ++ x :: xs.drop (kk + 1))[kk]? = some x:=by rw [List.getElem?_append_right (by omega),hdl,Nat.sub_self];rfl
      obtain ⟨A0,c0,e0⟩:=(ho.t0 kk x hkx).slice
      obtain ⟨A1,c1,e1⟩:=(ho.t1 kk x hkx).slice
      obtain ⟨ys,hys⟩ : ∃ ys,ys = done ++ x :: xs.drop (kk + 1):=⟨_,rfl⟩
      rw [← hys] at ho hkl hkx
      have HQ:=Aside0.mk (Frm.refl P wr)
      have HKL:=Aside0.mk hkl
      have HYS:=Aside0.mk hys
      have HRR:=Aside0.mk hR
      have HDL:=Aside0.mk hdl
      have E0:=Aside0.mk e0
      have E1:=Aside0.mk e1
      have PG:=Aside0.mk ho.pg
      have h0 : ys.set kk x = ys:=by
        obtain ⟨z1,z2⟩:=List.getElem?_eq_some_iff.1 hkx
        rw [← z2]
        exact List.set_getElem_self z1
      rw [← h0] at ho
      have HO1:=Aside0.mk ho
      obtain ⟨I1,hI1⟩ : ∃ I1,I1 = mkI x.f0 a1:=⟨_,rfl⟩
      obtain ⟨T1,hT1⟩ : ∃ T1,T1 = mkX d x.f1 I1.2:=⟨_,rfl⟩
      have NI:=Aside0.mk hI1
      have NT:=Aside0.mk hT1
      have HC0:=Aside0.mk (fun W (z : RowI W (Q0 kk) (.slice A0 x.f0.length c0) x.f0)=>markI_says _ _ a1 (Q0 kk) W z)
      have HC1:=Aside0.mk (fun W (z : Tr d W (Q1 kk) (.slice A1 x.f1.length c1) x.f1)=>mark_tree d _ _ I1.2 (Q1 kk) W z)
      rw [← hI1] at HC0
      rw [← hT1] at HC1
      obtain ⟨x0,x1,_⟩:=OpP.at ho (get_set hkl _)
      rw [e0] at x0
      clear x1
      clear ho hkx hkl hys hR hdl HE HO e0 e1 h0 hI1 hT1
      replace p1:=eq_true p1
      replace q1:=eq_true q1
      go_wp2_with (first | (go_at_call 26;(with_reducible refine (HC0.out _ ?sd).mono ?_);(case sd=>rw [← E0.out];have z:=HO1.out.t0 kk _ (get_set HKL.out _);exact z);rintro e w1 ⟨rfl,ht,hf⟩;have n0_:=Aside0.mk (show OpP d w1 g P V0 V1 Q0 Q1 (ys.set kk ⟨I1.1,x.f1,x.f2,x.f3,x.f4⟩) by have z:=HO1.out.sub0 (get_set HKL.out _) (by rw [E0.out];exact ht) hf.1;rw [set_set] at z;exact z);have n1_:=Aside0.mk (HQ.out.trans (hf.mono fun k hk=>(HO1.out.s0 kk k hk).1));clear HO1 HQ ht hf x0;have HO1:=n0_;have HQ:=n1_;clear n0_ n1_;obtain ⟨_,x1,_⟩:=OpP.at HO1.out (get_set HKL.out _);rw [E1.out] at x1) | (go_at_call 24;(with_reducible refine (HC1.out _ ?sd).mono ?_);(case sd=>rw [← E1.out];have z:=HO1.out.t1 kk _ (get_set HKL.out _);exact z);rintro e w2 ⟨rfl,ht,hf⟩;have n0_:=Aside0.mk (show OpP d w2 g P V0 V1 Q0 Q1 (ys.set kk ⟨I1.1,T1.1,x.f2,x.f3,x.f4⟩) by have z:=HO1.out.sub1 (get_set HKL.out _) (by rw [E1.out];exact ht) hf.1;rw [set_set] at z;exact z);have n1_:=Aside0.mk (HQ.out.trans (hf.mono fun k hk=>(HO1.out.s1 kk k hk).1));clear HO1 HQ ht hf x1;have HO1:=n0_;have HQ:=n1_;clear n0_ n1_;obtain ⟨_,_,⟨x2,f2⟩,_⟩:=OpP.at HO1.out (get_set HKL.out _)) | ((with_reducible refine gate_store (t:=3) (p:=30) rfl ?_);refine store_event (t:=3) (p:=30) (v:=?vo2_) (w1:=(w2.setCell ⟨g,kk * 5 + 2,none⟩ (.int .i64 T1.2))) ?hg ?ho ?hn ?hr ?_;(case ho=>rfl);(case hg=>rfl);(case hn=>rfl);(case hr=>first | (go_simp;done) | (go_simp;rfl));intro w3 hw;have n0_:=Aside0.mk (show OpP d w3 g P V0 V1 Q0 Q1 (ys.set kk (setP ⟨I1.1,T1.1,x.f2,x.f3,x.f4⟩ 2 T1.2)) by rw [hw];exact HO1.out.step HKL.out (j:=2) (by omega) _);have n1_:=Aside0.mk (HQ.out.trans (show Frm P w2 w3 by rw [hw];exact Frm.set PG.out _ _));clear HO1 HQ hw x2 f2;have HO1:=n0_;have HQ:=n1_;clear n0_ n1_;obtain ⟨_,_,_,⟨x3,f3⟩,_⟩:=OpP.at HO1.out (get_set HKL.out _)) | ((with_reducible refine gate_store (t:=3) (p:=37) rfl ?_);refine store_event (t:=3) (p:=37) (v:=?vo3_) (w1:=(w3.setCell ⟨g,kk * 5 + 3,none⟩ (.int .i64 (wrap64 (T1.2 + 1))))) ?hg ?ho ?hn ?hr ?_;(case ho=>rfl);(case hg=>rfl);(case hn=>rfl);(case hr=>first | (go_simp;done) | (go_simp;rfl));intro w4 hw;have n0_:=Aside0.mk (show OpP d w4 g P V0 V1 Q0 Q1 (ys.set kk (setP (setP ⟨I1.1,T1.1,x.f2,x.f3,x.f4⟩ 2 T1.2) 3 (wrap64 (T1.2 + 1)))) by rw [hw];exact HO1.out.step HKL.out (j:=3) (by omega) _);have n1_:=Aside0.mk (HQ.out.trans (show Frm P w3 w4 by rw [hw];exact Frm.set PG.out _ _));clear HO1 HQ hw x3 f3;have HO1:=n0_;have HQ:=n1_;clear n0_ n1_;obtain ⟨_,_,_,_,x4,f4⟩:=OpP.at HO1.out (get_set HKL.out _)) | ((with_reducible refine gate_store (t:=3) (p:=44) rfl ?_);refine store_event (t:=3) (p:=44) (v:=?vo4_) (w1:=(w4.setCell ⟨g,kk * 5 + 4,none⟩ (.int .i64 (wrap64 (wrap64 (T1.2 + 1) + 1))))) ?hg ?ho ?hn ?hr ?_;(case ho=>rfl);(case hg=>rfl);(case hn=>rfl);(case hr=>first | (go_simp;done) | (go_simp;rfl));intro w5 hw;have n0_:=Aside0.mk (show OpP d w5 g P V0 V1 Q0 Q1 (ys.set kk (mkPE d x a1).1) by rw [hw];have z:=HO1.out.step HKL.out (j:=4) (by omega) (wrap64 (wrap64 (T1.2 + 1) + 1));rw [NT.out,NI.out] at z ⊢;exact z);have n1_:=Aside0.mk (HQ.out.trans (show Frm P w4 w5 by rw [hw];exact Frm.set PG.out _ _));clear HO1 HQ hw x4 f4;have HO1:=n0_;have HQ:=n1_;clear n0_ n1_))
      go_roundg (xs.length - (kk + 1))
      case measure=>omega
      case rel =>
        refine ⟨kk + 1,(mkPE d x a1).2,done ++ [(mkPE d x a1).1],by omega,by omega,(by rw [NT.out,NI.out];rfl),by go_num,⟨?_,?_⟩,⟨?_⟩,⟨HI.out.trans HQ.out⟩⟩
        · rw [List.length_append,HDL.out]
          rfl
        · rw [HRR.out,List.append_assoc]
          rfl
        · have z:=HO1.out
          rw [HYS.out] at z
          rw [List.append_assoc]
          have e : (done ++ x :: xs.drop (kk + 1)).set kk (mkPE d x a1).1 = done ++ ([(mkPE d x a1).1] ++ xs.drop (kk + 1)):=by
            rw [List.set_append_right _ _ (by rw [HDL.out];exact Nat.le_refl _),HDL.out,Nat.sub_self]
            rfl
          rw [e] at z
          exact z
    · have hltz : decide ((kk : Int) < (xs.length : Int)) = false:=decide_eq_false (by omega)
      have he:=HE.out
      have ho:=HO.out
      rw [List.drop_of_length_le (by omega)] at he ho
      have HRR:=Aside0.mk he.2
      have HO1:=Aside0.mk ho
      clear he ho HE HO
      go_wp2
      go_ret
      rw [HRR.out]
      exact ⟨rfl,HO1.out,HI.out⟩
theorem markP_nil (A : Option Addr) (c : Nat) (a : Int) (w : World) : Calls Try.prog 25 #[.slice A 0 c,.int .i64 a] w fun e w'=>e = .returned (.int .i64 a) ∧ w' = w:=by
  go_enter Try.func25,Try.ntmps25
  go_wp2
  go_loopg [1,5] 1 (fun gg v1 v5 wr=>v1 = .int .i64 a ∧ v5 = .int .i64 0 ∧ wr = w)
  case atStart=>exact ⟨rfl,rfl,rfl⟩
  case round =>
    obtain ⟨rfl,rfl,rfl⟩:=hrel
    go_wp2
    go_ret
    exact ⟨rfl,rfl⟩
theorem markP_says (d : Nat) (v : Value) (xs : List S59) (a : Int) (P : Nat → Prop) (w : World) (h : RowP d w P v xs) :
    Calls Try.prog 25 #[v,.int .i64 a] w fun e w'=>e = .returned (.int .i64 (mkPL d xs a).2) ∧ RowP d w' P v (mkPL d xs a).1 ∧ Frm P w w':=by
  obtain ⟨A,cap,rfl,h1,h2,h⟩:=h
  rcases h with rfl | ⟨g,V0,V1,Q0,Q1,rfl,ho⟩
  · refine (markP_nil A cap a w).mono ?_
    rintro e w' ⟨rfl,rfl⟩
    exact ⟨rfl,⟨A,cap,rfl,h1,h2,.inl rfl⟩,Frm.refl _ _⟩
  · refine (markP_op d g cap xs a P V0 V1 Q0 Q1 w h2 ho).mono ?_
    rintro e w' ⟨rfl,ho',hf⟩
    have el:=mkPL_len d xs a
    refine ⟨rfl,⟨some ⟨g,0,none⟩,cap,?_,(show (mkPL d xs a).1.length ≤ cap from el ▸ h1),(show (mkPL d xs a).1.length ≤ 9223372036854775807 from el ▸ h2),.inr ⟨g,V0,V1,Q0,Q1,rfl,ho'⟩⟩,hf⟩
    show _ = Value.slice _ (mkPL d xs a).1.length cap
    rw [el]
def cellsP (x : S59) (v0 v1 : Value) : List Value:=[v0,v1,.int .i64 x.f2,.int .i64 x.f3,.int .i64 x.f4]
def cellsPL (ys : List S59) (V0 V1 : Nat → Value) : Nat → List Value
  | 0=>[]
  | n + 1=>cellsPL ys V0 V1 n ++ cellsP (ys.getD n z59) (V0 n) (V1 n)
theorem cellsPL_len (ys : List S59) (V0 V1 : Nat → Value) : ∀ n,(cellsPL ys V0 V1 n).length = n * 5
  | 0=>rfl
  | n + 1=>by
    show (cellsPL ys V0 V1 n ++ cellsP _ _ _).length = _
    rw [List.length_append,cellsPL_len ys V0 V1 n]
    show n * 5 + 5 = _
    omega
theorem cellsPL_at (ys : List S59) (V0 V1 : Nat → Value) (i q : Nat) (hq : q < 5) : ∀ n,i < n → (cellsPL ys V0 V1 n)[i * 5 + q]? = (cellsP (ys.getD i z59) (V0 i) (V1 i))[q]?
  | 0,h=>by omega
  | n + 1,h=>by
    show (cellsPL ys V0 V1 n ++ cellsP _ _ _)[i * 5 + q]? = _
    by_cases e : i = n
    · subst e
      rw [List.getElem?_append_right (by rw [cellsPL_len];omega),cellsPL_len,show i * 5 + q - i * 5 = q by omega]
    · rw [List.getElem?_append_left (by rw [cellsPL_len];omega)]
      exact cellsPL_at ys V0 V1 i q hq n (by omega)
theorem cellsPL_congr (ys ys' : List S59) (V0 V1 V0' V1' : Nat → Value) : ∀ n,(∀ i,i < n → ys.getD i z59 = ys'.getD i z59 ∧ V0 i = V0' i ∧ V1 i = V1' i) → cellsPL ys V0 V1 n = cellsPL ys' V0' V1' n
  | 0,_=>rfl
  | n + 1,h=>by
    obtain ⟨a,b,c⟩:=h n (by omega)
    show cellsPL ys V0 V1 n ++ cellsP _ _ _ = cellsPL ys' V0' V1' n ++ cellsP _ _ _
    rw [cellsPL_congr ys ys' V0 V1 V0' V1' n (fun i hi=>h i (by omega)),a,b,c]
theorem cellsPL_snoc (ys : List S59) (x : S59) (V0 V1 : Nat → Value) (v0 v1 : Value) : cellsPL (ys ++ [x]) (upd V0 ys.length v0) (upd V1 ys.length v1) (ys.length + 1) = cellsPL ys V0 V1 ys.length ++ cellsP x v0 v1:=by
  show cellsPL _ _ _ ys.length ++ cellsP _ _ _ = _
  rw [upd_self,upd_self,cellsPL_congr (ys ++ [x]) ys _ _ V0 V1 ys.length (fun i hi=>⟨by rw [List.getD_eq_getElem?_getD,List.getD_eq_getElem?_getD,List.getElem?_append_left hi],upd_ne _ _ (by omega),upd_ne _ _ (by omega)⟩)]
  congr 2
  rw [List.getD_eq_getElem?_getD,List.getElem?_append_right (Nat.le_refl _),Nat.sub_self]
  rfl
structure KdP (d : Nat) (W : World) (n0 hi : Nat) (ub : Option Nat) (ys : List S59) (V0 V1 : Nat → Value) (Q0 Q1 : Nat → Nat → Prop) : Prop where
  t0 : ∀ i x,ys[i]? = some x → RowI W (Q0 i) (V0 i) x.f0
  t1 : ∀ i x,ys[i]? = some x → Tr d W (Q1 i) (V1 i) x.f1
  r0 : ∀ i k,Q0 i k → i < ys.length ∧ n0 ≤ k ∧ k < hi ∧ some k ≠ ub
  r1 : ∀ i k,Q1 i k → i < ys.length ∧ n0 ≤ k ∧ k < hi ∧ some k ≠ ub
  d00 : ∀ i j k,Q0 i k → Q0 j k → i = j
  d11 : ∀ i j k,Q1 i k → Q1 j k → i = j
  d01 : ∀ i j k,Q0 i k → ¬ Q1 j k
theorem KdP.nil (d : Nat) (W : World) (n0 hi : Nat) (ub : Option Nat) : KdP d W n0 hi ub [] (fun _=>.slice none 0 0) (fun _=>.slice none 0 0) (fun _ _=>False) (fun _ _=>False) :=
  ⟨fun i x h=>by simp at h,fun i x h=>by simp at h,fun _ _ h=>h.elim,fun _ _ h=>h.elim,fun _ _ _ h=>h.elim,fun _ _ _ h=>h.elim,fun _ _ _ h=>h.elim⟩
theorem KdP.frame {d : Nat} {W W' : World} {n0 hi : Nat} {ub : Option Nat} {ys : List S59} {V0 V1 : Nat → Value} {Q0 Q1 : Nat → Nat → Prop} (h : KdP d W n0 hi ub ys V0 V1 Q0 Q1) (hf : ∀ k,n0 ≤ k → k < hi → some k ≠ ub → W'.heap[k]? = W.heap[k]?) : KdP d W' n0 hi ub ys V0 V1 Q0 Q1 :=
  { h with
    t0:=fun i x hx=>(h.t0 i x hx).frame fun k hk=>hf k (h.r0 i k hk).2.1 (h.r0 i k hk).2.2.1 (h.r0 i k hk).2.2.2
    t1:=fun i x hx=>Tr.frT d _ _ _ _ _ (h.t1 i x hx) fun k hk=>hf k (h.r1 i k hk).2.1 (h.r1 i k hk).2.2.1 (h.r1 i k hk).2.2.2 }
theorem KdP.snoc {d : Nat} {W : World} {n0 hi : Nat} {ub : Option Nat} {ys : List S59} {V0 V1 : Nat → Value} {Q0 Q1 : Nat → Nat → Prop} (h : KdP d W n0 hi ub ys V0 V1 Q0 Q1) {x : S59} {v0 v1 : Value} {A B : Nat → Prop} {s1 e2 : Nat} (h1 : hi ≤ s1) (h2 : s1 ≤ e2) (h0 : n0 ≤ hi)
    (hA : ∀ k,A k → s1 ≤ k ∧ k < e2) (hB : ∀ k,B k → s1 ≤ k ∧ k < e2) (hAB : ∀ k,A k → ¬ B k)
    (ht0 : RowI W A v0 x.f0) (ht1 : Tr d W B v1 x.f1) {ub' : Option Nat} (hub : (ub' = ub ∧ ∀ g,ub = some g → g < hi) ∨ ∃ b,ub' = some b ∧ e2 ≤ b) :
    KdP d W n0 e2 ub' (ys ++ [x]) (upd V0 ys.length v0) (upd V1 ys.length v1) (upd Q0 ys.length A) (upd Q1 ys.length B):=by
  have get : ∀ i y,(ys ++ [x])[i]? = some y → (i = ys.length ∧ y = x) ∨ (i ≠ ys.length ∧ ys[i]? = some y):=fun i y hy=>by
    rcases Nat.lt_trichotomy i ys.length with l | l | l
    · rw [List.getElem?_append_left l] at hy
      exact .inr ⟨by omega,hy⟩
    · subst l
      rw [List.getElem?_append_right (Nat.le_refl _),Nat.sub_self] at hy
      exact .inl ⟨rfl,(Option.some.inj hy).symm⟩
    · rw [List.getElem?_eq_none (by simp;omega)] at hy
      cases hy
  have old : ∀ (Q : Nat → Nat → Prop),(∀ i k,Q i k → i < ys.length ∧ n0 ≤ k ∧ k < hi ∧ some k ≠ ub) → ∀ i k,i ≠ ys.length → Q i k → i < (ys ++ [x]).length ∧ n0 ≤ k ∧ k < e2 ∧ some k ≠ ub':=fun Q hQ i k hi hk=>by
    obtain ⟨a,b,c,e⟩:=hQ i k hk
    refine ⟨by simp;omega,b,by omega,?_⟩
    rcases hub with ⟨rfl,_⟩ | ⟨b',rfl,hb⟩
    · exact e
    · intro z
      injection z with z
      omega
  have new : ∀ k,s1 ≤ k → k < e2 → some k ≠ ub':=fun k a b z=>by
    rcases hub with ⟨rfl,hg⟩ | ⟨b',rfl,hb⟩
    · have:=hg k z.symm
      omega
    · injection z with z
      omega
  have far : ∀ (C : Nat → Prop) (Q : Nat → Nat → Prop),(∀ k,C k → s1 ≤ k ∧ k < e2) → (∀ i k,Q i k → i < ys.length ∧ n0 ≤ k ∧ k < hi ∧ some k ≠ ub) → ∀ j k,C k → ¬ Q j k:=fun C Q hC hQ j k a b=>by
    have:=hC k a
    have:=hQ j k b
    omega
  refine ⟨fun i y hy=>?_,fun i y hy=>?_,fun i k hk=>?_,fun i k hk=>?_,fun i j k a b=>?_,fun i j k a b=>?_,fun i j k a b=>?_⟩
  · rcases get i y hy with ⟨rfl,rfl⟩ | ⟨e,hy⟩
    · rw [upd_self,upd_self]
      exact ht0
    · rw [upd_ne _ _ e,upd_ne _ _ e]
      exact h.t0 i y hy
  · rcases get i y hy with ⟨rfl,rfl⟩ | ⟨e,hy⟩
    · rw [upd_self,upd_self]
      exact ht1
    · rw [upd_ne _ _ e,upd_ne _ _ e]
      exact h.t1 i y hy
  · by_cases e : i = ys.length
    · subst e
      rw [upd_self] at hk
      have:=hA k hk
      exact ⟨by simp,by omega,by omega,new k this.1 this.2⟩
    · rw [upd_ne _ _ e] at hk
      exact old Q0 h.r0 i k e hk
  · by_cases e : i = ys.length
    · subst e
      rw [upd_self] at hk
      have:=hB k hk
      exact ⟨by simp,by omega,by omega,new k this.1 this.2⟩
    · rw [upd_ne _ _ e] at hk
      exact old Q1 h.r1 i k e hk
  · by_cases e : i = ys.length
    · by_cases f : j = ys.length
      · omega
      · rw [e,upd_self] at a
        rw [upd_ne _ _ f] at b
        exact absurd b (far A Q0 hA h.r0 j k a)
    · by_cases f : j = ys.length
      · rw [f,upd_self] at b
        rw [upd_ne _ _ e] at a
        exact absurd a (far A Q0 hA h.r0 i k b)
      · rw [upd_ne _ _ e] at a
        rw [upd_ne _ _ f] at b
        exact h.d00 i j k a b
  · by_cases e : i = ys.length
    · by_cases f : j = ys.length
      · omega
      · rw [e,upd_self] at a
        rw [upd_ne _ _ f] at b
        exact absurd b (far B Q1 hB h.r1 j k a)
    · by_cases f : j = ys.length
      · rw [f,upd_self] at b
        rw [upd_ne _ _ e] at a
        exact absurd a (far B Q1 hB h.r1 i k b)
      · rw [upd_ne _ _ e] at a
        rw [upd_ne _ _ f] at b
        exact h.d11 i j k a b
  · by_cases e : i = ys.length
    · rw [e,upd_self] at a
      by_cases f : j = ys.length
      · rw [f,upd_self] at b
        exact hAB k a b
      · rw [upd_ne _ _ f] at b
        exact far A Q1 hA h.r1 j k a b
    · rw [upd_ne _ _ e] at a
      by_cases f : j = ys.length
      · rw [f,upd_self] at b
        exact far B Q0 hB h.r0 i k b a
      · rw [upd_ne _ _ f] at b
        exact h.d01 i j k a b
theorem KdP.up {d : Nat} {W : World} {n0 hi hi' : Nat} {ub : Option Nat} {ys : List S59} {V0 V1 : Nat → Value} {Q0 Q1 : Nat → Nat → Prop} (h : KdP d W n0 hi ub ys V0 V1 Q0 Q1) (hh : hi ≤ hi') : KdP d W n0 hi' ub ys V0 V1 Q0 Q1 :=
  { h with
    r0:=fun i k hk=>by have:=h.r0 i k hk;exact ⟨this.1,this.2.1,by omega,this.2.2.2⟩
    r1:=fun i k hk=>by have:=h.r1 i k hk;exact ⟨this.1,this.2.1,by omega,this.2.2.2⟩ }
theorem KdP.row {d : Nat} {W : World} {n0 hi : Nat} {v : Value} {ys : List S59} {V0 V1 : Nat → Value} {Q0 Q1 : Nat → Nat → Prop} (h : KdP d W n0 hi v.ownBlock ys V0 V1 Q0 Q1) (hh : hi ≤ W.heap.size) (ho : W.ownsRow n0 59 5 v ys.length (cellsPL ys V0 V1 ys.length)) : RowP d W (fun k=>n0 ≤ k ∧ k < W.heap.size) v ys:=by
  have h2:=ho.2
  rcases h2 with ⟨rfl,hn⟩ | ⟨g,cap,cur,rfl,hb,hg,hc,hm,hs,hk⟩
  · obtain rfl:=List.eq_nil_of_length_eq_zero hn
    exact ⟨none,0,rfl,Nat.le_refl _,by simp,.inl rfl⟩
  · refine ⟨_,cap,rfl,hc,by simp only [maxLen] at hm;omega,.inr ⟨g,V0,V1,Q0,Q1,rfl,?_⟩⟩
    have hgl : g < W.heap.size:=(Array.getElem?_eq_some_iff.1 hg).1
    have cl : ∀ j u,(cellsPL ys V0 V1 ys.length)[j]? = some u → cur[j]? = some u:=fun j u hu=>by
      rw [← hk] at hu
      rw [List.getElem?_take] at hu
      split at hu
      · rw [← Array.getElem?_toList]
        exact hu
      · cases hu
    refine ⟨⟨hb,hgl⟩,fun i x hx=>?_,h.t0,h.t1,fun i k hk=>?_,fun i k hk=>?_,h.d00,h.d11,h.d01⟩
    · have hi : i < ys.length:=(List.getElem?_eq_some_iff.1 hx).1
      have e : ys.getD i z59 = x:=by rw [List.getD_eq_getElem?_getD,hx];rfl
      have c:=fun q (hq : q < 5)=>cellsPL_at ys V0 V1 i q hq ys.length hi
      rw [e] at c
      exact ⟨cur,hg,cl _ _ (c 0 (by omega)),cl _ _ (c 1 (by omega)),cl _ _ (c 2 (by omega)),cl _ _ (c 3 (by omega)),cl _ _ (c 4 (by omega))⟩
    · obtain ⟨_,a,b,c⟩:=h.r0 i k hk
      exact ⟨⟨a,by omega⟩,fun z=>c (by rw [z];rfl)⟩
    · obtain ⟨_,a,b,c⟩:=h.r1 i k hk
      exact ⟨⟨a,by omega⟩,fun z=>c (by rw [z];rfl)⟩
theorem rowI_of_own {W : World} {base n : Nat} {v : Value} {xs : List Int} (h : W.ownsRow base 3 1 v xs.length (nums .i64 xs)) : RowI W (fun k=>some k = v.ownBlock) v xs:=by
  rcases h.2 with ⟨rfl,hn⟩ | ⟨g,cap,cur,rfl,hb,hg,hc,hm,hs,hk⟩
  · obtain rfl:=List.eq_nil_of_length_eq_zero hn
    exact ⟨none,0,rfl,Nat.le_refl _,by simp,.inl rfl⟩
  · refine ⟨_,cap,rfl,hc,by simp only [maxLen] at hm;omega,.inr ⟨g,rfl,rfl,cur,hg,fun i x hx=>?_⟩⟩
    have hu : (nums .i64 xs)[i]? = some (.int .i64 x):=by simp [nums,hx]
    rw [← hk] at hu
    rw [List.getElem?_take] at hu
    split at hu
    · rw [← Array.getElem?_toList]
      exact hu
    · cases hu
theorem rowI_of_R {W : World} {base : Nat} {ok : Nat → Prop} {v : Value} {xs : List Int} (h : (Kd.int .i64).R 3 W base ok v xs) : RowI W (fun k=>some k = v.ownBlock) v xs:=rowI_of_own (base:=base) (n:=0) (Kd.own_of_R (enc:=Value.int .i64) (h1:=fun _=>rfl) h)
end Go.Proofs.Ytdjkmnkgaacmfaa.P
