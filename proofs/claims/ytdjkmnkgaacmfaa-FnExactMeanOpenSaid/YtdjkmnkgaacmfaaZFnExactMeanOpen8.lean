/- Parts of the proof of FnExactMeanOpen: plain Lean functions of Go functions, and that the calls come to what they say; no condition beyond those that each theorem names. -/
import Derived.Test.YtdjkmnkgaacmfaaZFnExactMeanOpen4
import Derived.Maps.Own
import Derived.Maps.OwnOps
import Derived.Test.YtdjkmnkgaacmfaaZFnExactMeanOpen7
import Derived.Deep.RegionHeld3
import Derived.Deep.DrawnRows
import Derived.Deep.DeepCutAuto
namespace Go.Proofs.Ytdjkmnkgaacmfaa.P
open Go.RowKit Go.Maps Go.Proofs.YtdjkmnkgaacmfaaW.PrintWords Go.Proofs.YtdjkmnkgaacmfaaW.PrintLast Go.Proofs.YtdjkmnkgaacmfaaW.PrintMore
theorem set_alloc (w : World) (o o' : Obj) : ({ (w.alloc o) with heap:=(w.alloc o).heap.setIfInBounds w.heap.size o' } : World) = w.alloc o':=by
  have e : (w.heap.push o).setIfInBounds w.heap.size o' = w.heap.push o':=by
    apply Array.ext'
    simp [Array.toList_setIfInBounds,List.set_append_right]
  show ({ w with heap:=(w.heap.push o).setIfInBounds w.heap.size o' } : World) = { w with heap:=w.heap.push o' }
  rw [e]
theorem run_put_new {P : Program} {t kt e : TypeId} (ht : P.underlying t = some (.map kt e)) (hk : P.underlying kt = some (.int .i64)) (w : World) (es : Array MapEntry) (c : Nat) (n : Int) (v : Value)
    (hn : Instr.findNow (.int .i64) (.int .i64 n) es.toList 0 = some none) : (Instr.mapUpdate t (.map (some w.heap.size)) (.int .i64 n) v).run P (w.alloc (.map es c)) = .ok () (w.alloc (.map (es.push ⟨.int .i64 n,v,c⟩) (c + 1))):=by
  have hb : (w.alloc (.map es c)).heap[w.heap.size]? = some (.map es c):=(MapKept.heap_alloc w _).1
  have hf:=MapKept.run_findKey (w:=w.alloc (.map es c)) hk hn
  have hc:=MapKept.run_checkKey (w:=w.alloc (.map es c)) (k:=.int .i64 n) hk (by simp [MapKept.IsKey]) false 9999
  have hs:=set_alloc w (.map es c) (.map (es.push ⟨.int .i64 n,v,c⟩) (c + 1))
  have:=MapKept.run_setObj_map (P:=P) (.map (es.push ⟨.int .i64 n,v,c⟩) (c + 1)) hb
  rw [hs] at this
  simp [Instr.mapUpdate,run_underlying ht,MapKept.run_getObj_map hb,hc,hf,this,Result.andThen]
theorem run_look {P : Program} {t kt e : TypeId} (ht : P.underlying t = some (.map kt e)) (hk : P.underlying kt = some (.int .i64)) {w : World} {b : Nat} {es : Array MapEntry} {c : Nat} (hb : w.heap[b]? = some (.map es c)) (n : Int) {z : Value} (hz : (zeroValue e).run P w = .ok z w)
    {r : Option (Nat × Value)} (hn : Instr.findNow (.int .i64) (.int .i64 n) es.toList 0 = some r) :
    (Instr.lookup t (.map (some b)) (.int .i64 n) true).run P w = .ok (.tuple #[(r.map (·.2)).getD z,.bool r.isSome]) w:=by
  have hf:=MapKept.run_findKey (w:=w) hk hn
  have hc:=fun em=>MapKept.run_checkKey (w:=w) (k:=.int .i64 n) hk (by simp [MapKept.IsKey]) em 9999
  cases r <;> simp [Instr.lookup,run_underlying ht,MapKept.run_getObj_map hb,hc,hf,hz,Result.andThen]
end Go.Proofs.Ytdjkmnkgaacmfaa.P
namespace Go.Proofs.Ytdjkmnkgaacmfaa.P
open Go.RowKit Go.Maps Go.Proofs.YtdjkmnkgaacmfaaW.PrintWords Go.Proofs.YtdjkmnkgaacmfaaW.PrintLast Go.Proofs.YtdjkmnkgaacmfaaW.PrintMore
set_option linter.unusedVariables false
set_option linter.unusedSimpArgs false
def formsL : List (Int × Value):=[(1,.agg #[.string ⟨#[110,117,109]⟩,.int .i64 3,.int .i64 0,.bool false,.bool false]),(2,.agg #[.string ⟨#[]⟩,.int .i64 3,.int .i64 3,.bool false,.bool false]),(3,.agg #[.string ⟨#[108,111,97,100]⟩,.int .i64 3,.int .i64 3,.bool false,.bool false]),(4,.agg #[.string ⟨#[115,116,111,114,101]⟩,.int .i64 3,.int .i64 3,.bool false,.bool false]),(5,.agg #[.string ⟨#[115,97,121]⟩,.int .i64 3,.int .i64 0,.bool false,.bool false]),(6,.agg #[.string ⟨#[105,102]⟩,.int .i64 3,.int .i64 0,.bool true,.bool true]),(7,.agg #[.string ⟨#[119,104,105,108,101]⟩,.int .i64 3,.int .i64 0,.bool true,.bool false]),(8,.agg #[.string ⟨#[105,110]⟩,.int .i64 2,.int .i64 0,.bool true,.bool false]),(9,.agg #[.string ⟨#[119,97,105,116]⟩,.int .i64 2,.int .i64 0,.bool false,.bool false]),(10,.agg #[.string ⟨#[115,105,103,110,97,108]⟩,.int .i64 2,.int .i64 0,.bool false,.bool false]),(11,.agg #[.string ⟨#[121,105,101,108,100]⟩,.int .i64 0,.int .i64 0,.bool false,.bool false])]
def entries (l : List (Int × Value)) (n : Nat) : Array MapEntry:=((l.take n).zipIdx.map fun x=>(⟨.int .i64 x.1.1,x.1.2,x.2⟩ : MapEntry)).toArray
set_option maxHeartbeats 4000000 in
theorem forms_calls (w : World) : Calls Try.prog 59 #[] w fun e w'=>e = .returned (.map (some w.heap.size)) ∧ w' = w.alloc (.map (entries formsL 11) 11):=by
  have hmm : (Instr.makeMap 87 none).run Try.prog w = .ok (.map (some w.heap.size)) (w.alloc (.map (entries formsL 0) 0)):=rfl
  have h0 : (Instr.mapUpdate 87 (.map (some w.heap.size)) (.int .i64 1) (.agg #[.string ⟨#[110,117,109]⟩,.int .i64 3,.int .i64 0,.bool false,.bool false])).run Try.prog (w.alloc (.map (entries formsL 0) 0)) = .ok () (w.alloc (.map (entries formsL 1) 1)) :=
    run_put_new Try.underlying87 Try.underlying3 w (entries formsL 0) 0 1 _ rfl
  have h1 : (Instr.mapUpdate 87 (.map (some w.heap.size)) (.int .i64 2) (.agg #[.string ⟨#[]⟩,.int .i64 3,.int .i64 3,.bool false,.bool false])).run Try.prog (w.alloc (.map (entries formsL 1) 1)) = .ok () (w.alloc (.map (entries formsL 2) 2)) :=
    run_put_new Try.underlying87 Try.underlying3 w (entries formsL 1) 1 2 _ rfl
  have h2 : (Instr.mapUpdate 87 (.map (some w.heap.size)) (.int .i64 3) (.agg #[.string ⟨#[108,111,97,100]⟩,.int .i64 3,.int .i64 3,.bool false,.bool false])).run Try.prog (w.alloc (.map (entries formsL 2) 2)) = .ok () (w.alloc (.map (entries formsL 3) 3)) :=
    run_put_new Try.underlying87 Try.underlying3 w (entries formsL 2) 2 3 _ rfl
  have h3 : (Instr.mapUpdate 87 (.map (some w.heap.size)) (.int .i64 4) (.agg #[.string ⟨#[115,116,111,114,101]⟩,.int .i64 3,.int .i64 3,.bool false,.bool false])).run Try.prog (w.alloc (.map (entries formsL 3) 3)) = .ok () (w.alloc (.map (entries formsL 4) 4)) :=
    run_put_new Try.underlying87 Try.underlying3 w (entries formsL 3) 3 4 _ rfl
  have h4 : (Instr.mapUpdate 87 (.map (some w.heap.size)) (.int .i64 5) (.agg #[.string ⟨#[115,97,121]⟩,.int .i64 3,.int .i64 0,.bool false,.bool false])).run Try.prog (w.alloc (.map (entries formsL 4) 4)) = .ok () (w.alloc (.map (entries formsL 5) 5)) :=
    run_put_new Try.underlying87 Try.underlying3 w (entries formsL 4) 4 5 _ rfl
  have h5 : (Instr.mapUpdate 87 (.map (some w.heap.size)) (.int .i64 6) (.agg #[.string ⟨#[105,102]⟩,.int .i64 3,.int .i64 0,.bool true,.bool true])).run Try.prog (w.alloc (.map (entries formsL 5) 5)) = .ok () (w.alloc (.map (entries formsL 6) 6)) :=
    run_put_new Try.underlying87 Try.underlying3 w (entries formsL 5) 5 6 _ rfl
  have h6 : (Instr.mapUpdate 87 (.map (some w.heap.size)) (.int .i64 7) (.agg #[.string ⟨#[119,104,105,108,101]⟩,.int .i64 3,.int .i64 0,.bool true,.bool false])).run Try.prog (w.alloc (.map (entries formsL 6) 6)) = .ok () (w.alloc (.map (entries formsL 7) 7)) :=
    run_put_new Try.underlying87 Try.underlying3 w (entries formsL 6) 6 7 _ rfl
  have h7 : (Instr.mapUpdate 87 (.map (some w.heap.size)) (.int .i64 8) (.agg #[.string ⟨#[105,110]⟩,.int .i64 2,.int .i64 0,.bool true,.bool false])).run Try.prog (w.alloc (.map (entries formsL 7) 7)) = .ok () (w.alloc (.map (entries formsL 8) 8)) :=
    run_put_new Try.underlying87 Try.underlying3 w (entries formsL 7) 7 8 _ rfl
  have h8 : (Instr.mapUpdate 87 (.map (some w.heap.size)) (.int .i64 9) (.agg #[.string ⟨#[119,97,105,116]⟩,.int .i64 2,.int .i64 0,.bool false,.bool false])).run Try.prog (w.alloc (.map (entries formsL 8) 8)) = .ok () (w.alloc (.map (entries formsL 9) 9)) :=
    run_put_new Try.underlying87 Try.underlying3 w (entries formsL 8) 8 9 _ rfl
  have h9 : (Instr.mapUpdate 87 (.map (some w.heap.size)) (.int .i64 10) (.agg #[.string ⟨#[115,105,103,110,97,108]⟩,.int .i64 2,.int .i64 0,.bool false,.bool false])).run Try.prog (w.alloc (.map (entries formsL 9) 9)) = .ok () (w.alloc (.map (entries formsL 10) 10)) :=
    run_put_new Try.underlying87 Try.underlying3 w (entries formsL 9) 9 10 _ rfl
  have h10 : (Instr.mapUpdate 87 (.map (some w.heap.size)) (.int .i64 11) (.agg #[.string ⟨#[121,105,101,108,100]⟩,.int .i64 0,.int .i64 0,.bool false,.bool false])).run Try.prog (w.alloc (.map (entries formsL 10) 10)) = .ok () (w.alloc (.map (entries formsL 11) 11)) :=
    run_put_new Try.underlying87 Try.underlying3 w (entries formsL 10) 10 11 _ rfl
  go_enter Try.func59,Try.ntmps59
  go_wp2
  go_ret
  exact ⟨rfl,rfl⟩
end Go.Proofs.Ytdjkmnkgaacmfaa.P
namespace Go.Proofs.Ytdjkmnkgaacmfaa.P
open Go.RowKit Go.Maps Go.Proofs.YtdjkmnkgaacmfaaW.PrintWords Go.Proofs.YtdjkmnkgaacmfaaW.PrintLast Go.Proofs.YtdjkmnkgaacmfaaW.PrintMore
set_option linter.unusedVariables false
set_option linter.unusedSimpArgs false
def fmS (n : Int) : ByteArray:=if n = 1 then ⟨#[110,117,109]⟩ else if n = 3 then ⟨#[108,111,97,100]⟩ else if n = 4 then ⟨#[115,116,111,114,101]⟩ else if n = 5 then ⟨#[115,97,121]⟩ else if n = 6 then ⟨#[105,102]⟩ else if n = 7 then ⟨#[119,104,105,108,101]⟩ else if n = 8 then ⟨#[105,110]⟩ else if n = 9 then ⟨#[119,97,105,116]⟩ else if n = 10 then ⟨#[115,105,103,110,97,108]⟩ else if n = 11 then ⟨#[121,105,101,108,100]⟩ else ⟨#[]⟩
def fmA (n : Int) : Int:=if 1 ≤ n ∧ n ≤ 7 then 3 else if 8 ≤ n ∧ n ≤ 10 then 2 else 0
def fmB (n : Int) : Int:=if 2 ≤ n ∧ n ≤ 4 then 3 else 0
def fmX (n : Int) : Bool:=decide (6 ≤ n ∧ n ≤ 8)
def fmY (n : Int) : Bool:=decide (n = 6)
def fmOk (n : Int) : Bool:=decide (1 ≤ n ∧ n ≤ 11)
def fmV (n : Int) : Value:=.agg #[.string (fmS n),.int .i64 (fmA n),.int .i64 (fmB n),.bool (fmX n),.bool (fmY n)]
set_option maxRecDepth 100000 in
theorem look_forms {W : World} {b : Nat} (hb : W.heap[b]? = some (.map (entries formsL 11) 11)) (n : Int) :
    (Instr.lookup 87 (.map (some b)) (.int .i64 n) true).run Try.prog W = .ok (.tuple #[.agg #[.string (fmS n),.int .i64 (fmA n),.int .i64 (fmB n),.bool (fmX n),.bool (fmY n)],.bool (fmOk n)]) W:=by
  have hz : (zeroValue 85).run Try.prog W = .ok (.agg #[.string ⟨#[]⟩,.int .i64 0,.int .i64 0,.bool false,.bool false]) W:=by rfl
  by_cases h1 : n = 1
  · subst h1;exact run_look Try.underlying87 Try.underlying3 hb 1 hz rfl
  by_cases h2 : n = 2
  · subst h2;exact run_look Try.underlying87 Try.underlying3 hb 2 hz rfl
  by_cases h3 : n = 3
  · subst h3;exact run_look Try.underlying87 Try.underlying3 hb 3 hz rfl
  by_cases h4 : n = 4
  · subst h4;exact run_look Try.underlying87 Try.underlying3 hb 4 hz rfl
  by_cases h5 : n = 5
  · subst h5;exact run_look Try.underlying87 Try.underlying3 hb 5 hz rfl
  by_cases h6 : n = 6
  · subst h6;exact run_look Try.underlying87 Try.underlying3 hb 6 hz rfl
  by_cases h7 : n = 7
  · subst h7;exact run_look Try.underlying87 Try.underlying3 hb 7 hz rfl
  by_cases h8 : n = 8
  · subst h8;exact run_look Try.underlying87 Try.underlying3 hb 8 hz rfl
  by_cases h9 : n = 9
  · subst h9;exact run_look Try.underlying87 Try.underlying3 hb 9 hz rfl
  by_cases h10 : n = 10
  · subst h10;exact run_look Try.underlying87 Try.underlying3 hb 10 hz rfl
  by_cases h11 : n = 11
  · subst h11;exact run_look Try.underlying87 Try.underlying3 hb 11 hz rfl
  have none_ : Instr.findNow (.int .i64) (.int .i64 n) (entries formsL 11).toList 0 = some none:=by
    have e : ∀ m : Int,¬ n = m → (n == m) = false:=fun m h=>by simpa using h
    simp [entries,formsL,Instr.findNow,Instr.sameNow,List.zipIdx,e 1 h1,e 2 h2,e 3 h3,e 4 h4,e 5 h5,e 6 h6,e 7 h7,e 8 h8,e 9 h9,e 10 h10,e 11 h11]
  have e:=run_look Try.underlying87 Try.underlying3 hb n hz none_
  have a1 : fmS n = ⟨#[]⟩:=by unfold fmS;simp [*]
  have a2 : fmA n = 0:=by unfold fmA;rw [if_neg (by omega),if_neg (by omega)]
  have a3 : fmB n = 0:=by unfold fmB;rw [if_neg (by omega)]
  have a4 : fmX n = false:=decide_eq_false (by omega)
  have a5 : fmY n = false:=decide_eq_false (by omega)
  have a6 : fmOk n = false:=decide_eq_false (by omega)
  rw [a1,a2,a3,a4,a5,a6]
  exact e
end Go.Proofs.Ytdjkmnkgaacmfaa.P
namespace Go.Proofs.Ytdjkmnkgaacmfaa.P
open Go.RowKit Go.Maps Go.Proofs.YtdjkmnkgaacmfaaW.PrintWords Go.Proofs.YtdjkmnkgaacmfaaW.PrintLast Go.Proofs.YtdjkmnkgaacmfaaW.PrintMore
attribute [local go_sem] max2_int min2_int max_two min_two max_three min_three max_four min_four
attribute [local go_sem ↓] Go.wp_at_zero Go.wp_at_succ
set_option linter.unusedVariables false
set_option linter.unusedSimpArgs false
theorem hb_ {A B : Prop} (a : Aside0 A) (h : A → B:=by intro h_;repeat (first | exact h_ | (with_reducible apply pw_below_drewN) | (with_reducible apply below_drew1))) : B:=h a.out
theorem size_alloc (w : World) (o : Obj) : (w.alloc o).heap.size = w.heap.size + 1:=by
  show (w.heap.push o).size = _
  simp
theorem look1 (w : World) (o : Obj) (n : Int) : (Instr.lookup 87 (.map (some (w.heap.size + 1))) (.int .i64 n) true).run Try.prog (((w.alloc o).alloc (.map (entries formsL 11) 11)).drew) = .ok (.tuple #[.agg #[.string (fmS n),.int .i64 (fmA n),.int .i64 (fmB n),.bool (fmX n),.bool (fmY n)],.bool (fmOk n)]) (((w.alloc o).alloc (.map (entries formsL 11) 11)).drew):=by
  refine look_forms (W:=((w.alloc o).alloc (.map (entries formsL 11) 11)).drew) ?_ n
  rw [← size_alloc w o]
  exact (MapKept.heap_alloc (w.alloc o) _).1
theorem look2 (w : World) (o o' : Obj) (n : Int) : (Instr.lookup 87 (.map (some (w.heap.size + 1))) (.int .i64 n) true).run Try.prog ((((w.alloc o).alloc (.map (entries formsL 11) 11)).alloc o').drew) = .ok (.tuple #[.agg #[.string (fmS n),.int .i64 (fmA n),.int .i64 (fmB n),.bool (fmX n),.bool (fmY n)],.bool (fmOk n)]) ((((w.alloc o).alloc (.map (entries formsL 11) 11)).alloc o').drew):=by
  refine look_forms (W:=(((w.alloc o).alloc (.map (entries formsL 11) 11)).alloc o').drew) ?_ n
  rw [← size_alloc w o]
  refine ((MapKept.heap_alloc ((w.alloc o).alloc (.map (entries formsL 11) 11)) o').2 _ (by rw [size_alloc (w.alloc o)];omega)).trans ?_
  exact (MapKept.heap_alloc (w.alloc o) _).1
theorem look3 (w : World) (o o' : Obj) (n : Int) : (Instr.lookup 87 (.map (some (w.heap.size + 2))) (.int .i64 n) true).run Try.prog ((((w.alloc o).alloc o').alloc (.map (entries formsL 11) 11)).drew) = .ok (.tuple #[.agg #[.string (fmS n),.int .i64 (fmA n),.int .i64 (fmB n),.bool (fmX n),.bool (fmY n)],.bool (fmOk n)]) ((((w.alloc o).alloc o').alloc (.map (entries formsL 11) 11)).drew):=by
  refine look_forms (W:=(((w.alloc o).alloc o').alloc (.map (entries formsL 11) 11)).drew) ?_ n
  have e : w.heap.size + 2 = ((w.alloc o).alloc o').heap.size:=by rw [size_alloc,size_alloc]
  rw [e]
  exact (MapKept.heap_alloc ((w.alloc o).alloc o') _).1
theorem cell_of {W : World} {b : Nat} {cs : Array Value} {t : TypeId} {fr : Nat × Nat} (h : W.heap[b]? = some (.cells cs t fr)) (j : Nat) {v : Value} (hv : cs[j]? = some v) : W.cell? ⟨b,j,none⟩ = some v:=by
  simp [World.cell?,h,hv]
structure OkAt (W : World) (b g : Nat) (a0 a1 a2 a3 : Int) (v4 v5 : Value) : Prop where
  s : W.heap[b]? = some (.cells #[.int .i64 a0,.int .i64 a1,.int .i64 a2,.int .i64 a3,v4,v5] 61 (0,0))
  f : W.heap[g]? = some (.cells #[.string (fmS a0),.int .i64 (fmA a0),.int .i64 (fmB a0),.bool (fmX a0),.bool (fmY a0)] 85 (0,0))
theorem OkAt.below {W W' : World} {b g : Nat} {a0 a1 a2 a3 : Int} {v4 v5 : Value} (h : OkAt W b g a0 a1 a2 a3 v4 v5) (hb : Below W.heap.size W W') : OkAt W' b g a0 a1 a2 a3 v4 v5:=⟨blk_below h.s hb,blk_below h.f hb⟩
theorem OkAt.step {W W1 W' : World} {b g : Nat} {a0 a1 a2 a3 : Int} {v4 v5 : Value} (h : OkAt W b g a0 a1 a2 a3 v4 v5) (hb : Below W1.heap.size W1 W') (e : W1.heap = W.heap:=by rfl) : OkAt W' b g a0 a1 a2 a3 v4 v5:=⟨blk_below (by rw [e];exact h.s) hb,blk_below (by rw [e];exact h.f) hb⟩
theorem OkAt.cells {W : World} {b g : Nat} {a0 a1 a2 a3 : Int} {v4 v5 : Value} (h : OkAt W b g a0 a1 a2 a3 v4 v5) :
    W.cell? ⟨b,0,none⟩ = some (.int .i64 a0) ∧ W.cell? ⟨b,1,none⟩ = some (.int .i64 a1) ∧ W.cell? ⟨b,2,none⟩ = some (.int .i64 a2) ∧ W.cell? ⟨b,3,none⟩ = some (.int .i64 a3) ∧ W.cell? ⟨b,4,none⟩ = some v4 ∧ W.cell? ⟨b,5,none⟩ = some v5 ∧
    W.cell? ⟨g,1,none⟩ = some (.int .i64 (fmA a0)) ∧ W.cell? ⟨g,2,none⟩ = some (.int .i64 (fmB a0)) ∧ W.cell? ⟨g,3,none⟩ = some (.bool (fmX a0)) ∧ W.cell? ⟨g,4,none⟩ = some (.bool (fmY a0)) :=
  ⟨cell_of h.s 0 rfl,cell_of h.s 1 rfl,cell_of h.s 2 rfl,cell_of h.s 3 rfl,cell_of h.s 4 rfl,cell_of h.s 5 rfl,cell_of h.f 1 rfl,cell_of h.f 2 rfl,cell_of h.f 3 rfl,cell_of h.f 4 rfl⟩
theorem okAt1 (w : World) (a0 a1 a2 a3 : Int) (v4 v5 : Value) : OkAt (((w.alloc (Obj.cells #[.int .i64 a0,.int .i64 a1,.int .i64 a2,.int .i64 a3,v4,v5] 61)).alloc (Obj.map (entries formsL 11) 11)).alloc (Obj.cells #[.string (fmS a0),.int .i64 (fmA a0),.int .i64 (fmB a0),.bool (fmX a0),.bool (fmY a0)] 85)).drew w.heap.size (w.heap.size + 1 + 1) a0 a1 a2 a3 v4 v5:=by
  refine ⟨blk_alloc (blk_alloc (blk_new w _) _) _,?_⟩
  have:=blk_new ((w.alloc (Obj.cells #[.int .i64 a0,.int .i64 a1,.int .i64 a2,.int .i64 a3,v4,v5] 61)).alloc (Obj.map (entries formsL 11) 11)) (Obj.cells #[.string (fmS a0),.int .i64 (fmA a0),.int .i64 (fmB a0),.bool (fmX a0),.bool (fmY a0)] 85)
  rw [size_alloc,size_alloc] at this
  exact this
theorem okAt3 (w : World) (a0 a1 a2 a3 : Int) (v4 v5 : Value) : OkAt (((w.alloc (Obj.cells #[.int .i64 a0,.int .i64 a1,.int .i64 a2,.int .i64 a3,v4,v5] 61)).alloc (Obj.cells #[.string (fmS a0),.int .i64 (fmA a0),.int .i64 (fmB a0),.bool (fmX a0),.bool (fmY a0)] 85)).alloc (Obj.map (entries formsL 11) 11)).drew w.heap.size (w.heap.size + 1) a0 a1 a2 a3 v4 v5:=by
  refine ⟨blk_alloc (blk_alloc (blk_new w _) _) _,?_⟩
  have:=blk_new (w.alloc (Obj.cells #[.int .i64 a0,.int .i64 a1,.int .i64 a2,.int .i64 a3,v4,v5] 61)) (Obj.cells #[.string (fmS a0),.int .i64 (fmA a0),.int .i64 (fmB a0),.bool (fmX a0),.bool (fmY a0)] 85)
  rw [size_alloc] at this
  exact blk_alloc this _
def fit (n l : Int) : Bool:=decide (n = 0) || (decide (0 < n) && decide (n < l))
theorem fits_eq (n l : Int) : impl_fits.f n l = some (fit n l):=by
  unfold impl_fits.f fit
  by_cases h : n = 0
  · rw [if_pos h,decide_eq_true h];rfl
  · rw [if_neg h,decide_eq_false h]
    by_cases h2 : n > 0
    · rw [if_pos h2,decide_eq_true (show 0 < n from h2)];rfl
    · rw [if_neg h2,decide_eq_false (show ¬ 0 < n from h2)];rfl
def both (L : List S61 → Int → Int → Option Bool) (l4 l5 : List S61) (d rm : Int) : Option Bool:=(L l4 d rm).bind fun b=>if b = true then L l5 d rm else some false
def stmtBody (L : List S61 → Int → Int → Option Bool) (a0 a1 a2 a3 : Int) (l4 l5 : List S61) (deep room : Int) : Option Bool :=
  if fmOk a0 = true then if deep < 1 then some false else if fit a1 (fmA a0) = true then if fit a2 (fmB a0) = true then (impl_Stmt_numberOk.f a0 a1 a2 a3 l4 l5).bind fun q=>if q = true then
    if fmX a0 = false ∧ 0 < (l4.length : Int) then some false else if fmY a0 = false ∧ 0 < (l5.length : Int) then some false else
    if a0 = 8 then if room = -1 then both L l4 l5 (wrap64 (deep - 1)) a1 else some false
    else if a0 = 9 then if room = -1 then some false else both L l4 l5 (wrap64 (deep - 1)) room
    else both L l4 l5 (wrap64 (deep - 1)) room
  else some false else some false else some false else some false
set_option maxHeartbeats 16000000 in
set_option maxRecDepth 100000 in
theorem stmtOk_walk (L : List S61 → Int → Int → Option Bool) (hL : ∀ (A : Option Addr) (c : Nat) (l : List S61) (d rm : Int) (b : Bool) (W : World), Kd.C k61 W A l.length l → l.length ≤ c → L l d rm = some b →
      Calls Try.prog 48 #[.slice A l.length c,.int .i64 d,.int .i64 rm] W fun e w'=>e = .returned (.bool b) ∧ Below W.heap.size W w')
    (a0 a1 a2 a3 : Int) (A4 : Option Addr) (c4 : Nat) (l4 : List S61) (A5 : Option Addr) (c5 : Nat) (l5 : List S61) (deep room : Int) (r : Bool) (w : World)
    (hr4 : Kd.C k61 w A4 l4.length l4) (hc4 : l4.length ≤ c4) (hr5 : Kd.C k61 w A5 l5.length l5) (hc5 : l5.length ≤ c5) (h : stmtBody L a0 a1 a2 a3 l4 l5 deep room = some r) :
    Calls Try.prog 54 #[.agg #[.int .i64 a0,.int .i64 a1,.int .i64 a2,.int .i64 a3,.slice A4 l4.length c4,.slice A5 l5.length c5],.int .i64 deep,.int .i64 room] w fun e w'=>e = .returned (.bool r) ∧ Below w.heap.size w w':=by
  have HR4:=Aside0.mk hr4
  have HR5:=Aside0.mk hr5
  have HL:=Aside0.mk hL
  have H:=Aside0.mk h
  clear hr4 hr5 hL h
  have hu:=Try.underlying61
  have hu2:=Try.underlying85
  have hl1:=look1 w
  have hl2:=look2 w
  have hl3:=look3 w
  have h:=H.out
  clear H
  unfold stmtBody at h
  go_enter Try.func54,Try.ntmps54
  go_upto_region 1 with fail
  go_cut [7,8] (fun s7 s8 wx=>∃ g : Nat,s7 = .pointer (some ⟨g,0,none⟩) ∧ s8 = .bool (fmOk a0) ∧ Aside0 (OkAt wx w.heap.size g a0 a1 a2 a3 (.slice A4 l4.length c4) (.slice A5 l5.length c5)) ∧ Aside0 (Below w.heap.size w wx))
  case first =>
    go_region_held3 (fun w'=>w'.cell? ⟨w.heap.size,0,none⟩ = some (.int .i64 a0)) (go_keep)
      (first | (go_at_call 59;refine (forms_calls _).mono ?_;rintro e w' ⟨rfl,rfl⟩))
    all_goals (go_wp2_with fail;go_meet;first | exact ⟨_,rfl,rfl,⟨okAt1 w _ _ _ _ _ _⟩,⟨below_drew1 (below_alloc (below_alloc (below_alloc (Below.refl _ w) _) _) _)⟩⟩ | exact ⟨_,rfl,rfl,⟨okAt3 w _ _ _ _ _ _⟩,⟨below_drew1 (below_alloc (below_alloc (below_alloc (Below.refl _ w) _) _) _)⟩⟩)
  case rest =>
  obtain ⟨g,rfl,rfl,HOk,HB⟩:=hcut
  clear hl1 hl2 hl3
  obtain ⟨e0,e1,e2,e3,e4,e5,f1,f2,f3,f4⟩:=HOk.out.cells
  by_cases k0 : fmOk a0 = true
  · rw [if_pos k0] at h
    by_cases k1 : deep < 1
    · rw [if_pos k1] at h
      have k1' : decide (deep < 1) = true:=decide_eq_true k1
      clear k1
      obtain rfl:=Option.some.inj h
      go_wp2
      go_ret
      exact ⟨by first | rfl | (simp;done) | (simp [*];done),(hb_ HB)⟩
    rw [if_neg k1] at h
    have k1' : decide (deep < 1) = false:=decide_eq_false k1
    clear k1
    by_cases k2 : fit a1 (fmA a0) = true
    · rw [if_pos k2] at h
      by_cases k3 : fit a2 (fmB a0) = true
      · rw [if_pos k3] at h
        obtain ⟨q,hq,h⟩:=Option.bind_eq_some_iff.1 h
        have HQ:=Aside0.mk hq
        clear hq
        cases q with
        | false =>
          rw [if_neg (by simp)] at h
          obtain rfl:=Option.some.inj h
          go_wp2_with (first | (go_at_call 60;refine (impl_fits.calls _ _ _ _ (fits_eq _ _)).mono ?_;rintro e w' ⟨rfl,⟨nd,rfl⟩⟩) | (go_at_call 61;refine (impl_Stmt_numberOk.calls a0 a1 a2 a3 A4 c4 l4 A5 c5 l5 _ _ (Kd.C_below HR4.out (hb_ HB)) hc4 (Kd.C_below HR5.out (hb_ HB)) hc5 HQ.out).mono ?_;rintro e w' ⟨rfl,hb⟩;have n1:=Aside0.mk (OkAt.step HOk.out hb);have n2:=Aside0.mk (below_step (hb_ HB) hb);clear e0 e1 e2 e3 e4 e5 f1 f2 f3 f4 HB HOk hb;have HOk:=n1;have HB:=n2;clear n1 n2;obtain ⟨e0,e1,e2,e3,e4,e5,f1,f2,f3,f4⟩:=HOk.out.cells))
          go_ret
          exact ⟨by first | rfl | (simp;done) | (simp [*];done),(hb_ HB)⟩
        | true =>
          rw [if_pos rfl] at h
          go_upto_region 4 with (first | (go_at_call 60;refine (impl_fits.calls _ _ _ _ (fits_eq _ _)).mono ?_;rintro e w' ⟨rfl,⟨nd,rfl⟩⟩) | (go_at_call 61;refine (impl_Stmt_numberOk.calls a0 a1 a2 a3 A4 c4 l4 A5 c5 l5 _ _ (Kd.C_below HR4.out (hb_ HB)) hc4 (Kd.C_below HR5.out (hb_ HB)) hc5 HQ.out).mono ?_;rintro e w' ⟨rfl,hb⟩;have n1:=Aside0.mk (OkAt.step HOk.out hb);have n2:=Aside0.mk (below_step (hb_ HB) hb);clear e0 e1 e2 e3 e4 e5 f1 f2 f3 f4 HB HOk hb;have HOk:=n1;have HB:=n2;clear n1 n2;obtain ⟨e0,e1,e2,e3,e4,e5,f1,f2,f3,f4⟩:=HOk.out.cells))
          clear HQ k0 k1' k2 k3
          obtain ⟨bad,hbad⟩ : ∃ bad : Bool,bad = ((!(fmX a0) && decide (0 < (l4.length : Int))) || (!(fmY a0) && decide (0 < (l5.length : Int)))):=⟨_,rfl⟩
          have HBAD:=Aside0.mk hbad
          clear hbad
          go_cut [62] (fun s62 wx=>s62 = .bool bad ∧ Aside0 (OkAt wx w.heap.size g a0 a1 a2 a3 (.slice A4 l4.length c4) (.slice A5 l5.length c5)) ∧ Aside0 (Below w.heap.size w wx))
          case first =>
            rcases l4 with _ | ⟨y4,t4⟩ <;> rcases l5 with _ | ⟨y5,t5⟩ <;> cases x : fmX a0 <;> cases y : fmY a0
            all_goals (
              try have pa1 : (0 < (t4.length : Int) + 1) = True:=eq_true (by omega)
              try have pb1 : (0 < (t5.length : Int) + 1) = True:=eq_true (by omega)
              go_wp2
              go_meet
              exact ⟨by rw [HBAD.out];first | rfl | (simp;done) | (simp [*];done),HOk,HB⟩)
          case rest =>
          obtain ⟨rfl,HOk,HB⟩:=hcut
          clear e0 e1 e2 e3 e4 e5 f1 f2 f3 f4
          obtain ⟨e0,e1,e2,e3,e4,e5,f1,f2,f3,f4⟩:=HOk.out.cells
          cases bad with
          | true =>
            have m:=HBAD.out.symm
            have hr : r = false:=by
              by_cases z : fmX a0 = false ∧ 0 < (l4.length : Int)
              · rw [if_pos z] at h
                exact (Option.some.inj h).symm
              · rw [if_neg z] at h
                by_cases z2 : fmY a0 = false ∧ 0 < (l5.length : Int)
                · rw [if_pos z2] at h
                  exact (Option.some.inj h).symm
                · exfalso
                  rw [Bool.or_eq_true,Bool.and_eq_true,Bool.and_eq_true,Bool.not_eq_true',Bool.not_eq_true',decide_eq_true_eq,decide_eq_true_eq] at m
                  exact m.elim z z2
            subst hr
            clear h m HBAD
            go_wp2
            go_ret
            exact ⟨by first | rfl | (simp;done) | (simp [*];done),(hb_ HB)⟩
          | false =>
            have m:=HBAD.out.symm
            have z : ¬ (fmX a0 = false ∧ 0 < (l4.length : Int)):=fun z=>absurd m (by rw [z.1,decide_eq_true z.2];simp)
            have z2 : ¬ (fmY a0 = false ∧ 0 < (l5.length : Int)):=fun z=>absurd m (by rw [z.1,decide_eq_true z.2];simp)
            rw [if_neg z,if_neg z2] at h
            clear z z2 m HBAD
            by_cases k5 : a0 = 8
            · rw [if_pos k5] at h
              have k5a : (a0 == 8) = true:=by simpa using k5
              clear k5
              by_cases k6 : room = -1
              · rw [if_pos k6] at h
                have k6a : (room != -1) = false:=by simpa using k6
                have k6b : (room == -1) = true:=by simpa using k6
                clear k6
                unfold both at h
                obtain ⟨x1,ha,h⟩:=Option.bind_eq_some_iff.1 h
                have HA:=Aside0.mk ha
                clear ha
                cases x1 with
                | false =>
                  obtain rfl:=Option.some.inj (show some false = some r by simpa using h)
                  clear h
                  go_wp2_with (first | (go_at_call 48;refine (HL.out A4 c4 l4 _ _ _ _ (Kd.C_below HR4.out (hb_ HB)) hc4 HA.out).mono ?_;rintro e w' ⟨rfl,hb⟩;have n1:=Aside0.mk (OkAt.step HOk.out hb);have n2:=Aside0.mk (below_step (hb_ HB) hb);clear e0 e1 e2 e3 e4 e5 f1 f2 f3 f4 HB HOk hb;have HOk:=n1;have HB:=n2;clear n1 n2;obtain ⟨e0,e1,e2,e3,e4,e5,f1,f2,f3,f4⟩:=HOk.out.cells;clear HA))
                  go_ret
                  exact ⟨by first | rfl | (simp;done) | (simp [*];done),(hb_ HB)⟩
                | true =>
                  have HA2:=Aside0.mk (show L l5 _ _ = some r by simpa using h)
                  clear h
                  go_wp2_with (first | (go_at_call 48;refine (HL.out A4 c4 l4 _ _ _ _ (Kd.C_below HR4.out (hb_ HB)) hc4 HA.out).mono ?_;rintro e w' ⟨rfl,hb⟩;have n1:=Aside0.mk (OkAt.step HOk.out hb);have n2:=Aside0.mk (below_step (hb_ HB) hb);clear e0 e1 e2 e3 e4 e5 f1 f2 f3 f4 HB HOk hb;have HOk:=n1;have HB:=n2;clear n1 n2;obtain ⟨e0,e1,e2,e3,e4,e5,f1,f2,f3,f4⟩:=HOk.out.cells;clear HA) | (go_at_call 48;refine (HL.out A5 c5 l5 _ _ _ _ (Kd.C_below HR5.out (hb_ HB)) hc5 HA2.out).mono ?_;rintro e w' ⟨rfl,hb⟩;have n2:=Aside0.mk (below_step (hb_ HB) hb);clear HB hb;have HB:=n2;clear n2))
                  go_ret
                  exact ⟨by first | rfl | (simp;done) | (simp [*];done),(hb_ HB)⟩
              · rw [if_neg k6] at h
                have k6a : (room != -1) = true:=by simpa using k6
                have k6b : (room == -1) = false:=by simpa using k6
                clear k6
                obtain rfl:=Option.some.inj h
                go_wp2
                go_ret
                exact ⟨by first | rfl | (simp;done) | (simp [*];done),(hb_ HB)⟩
            · rw [if_neg k5] at h
              have k5a : (a0 == 8) = false:=by simpa using k5
              clear k5
              by_cases k7 : a0 = 9
              · rw [if_pos k7] at h
                have k7a : (a0 == 9) = true:=by simpa using k7
                clear k7
                by_cases k6 : room = -1
                · rw [if_pos k6] at h
                  have k6a : (room != -1) = false:=by simpa using k6
                  have k6b : (room == -1) = true:=by simpa using k6
                  clear k6
                  obtain rfl:=Option.some.inj h
                  go_wp2
                  go_ret
                  exact ⟨by first | rfl | (simp;done) | (simp [*];done),(hb_ HB)⟩
                · rw [if_neg k6] at h
                  have k6a : (room != -1) = true:=by simpa using k6
                  have k6b : (room == -1) = false:=by simpa using k6
                  clear k6
                  unfold both at h
                  obtain ⟨x1,ha,h⟩:=Option.bind_eq_some_iff.1 h
                  have HA:=Aside0.mk ha
                  clear ha
                  cases x1 with
                  | false =>
                    obtain rfl:=Option.some.inj (show some false = some r by simpa using h)
                    clear h
                    go_wp2_with (first | (go_at_call 48;refine (HL.out A4 c4 l4 _ _ _ _ (Kd.C_below HR4.out (hb_ HB)) hc4 HA.out).mono ?_;rintro e w' ⟨rfl,hb⟩;have n1:=Aside0.mk (OkAt.step HOk.out hb);have n2:=Aside0.mk (below_step (hb_ HB) hb);clear e0 e1 e2 e3 e4 e5 f1 f2 f3 f4 HB HOk hb;have HOk:=n1;have HB:=n2;clear n1 n2;obtain ⟨e0,e1,e2,e3,e4,e5,f1,f2,f3,f4⟩:=HOk.out.cells;clear HA))
                    go_ret
                    exact ⟨by first | rfl | (simp;done) | (simp [*];done),(hb_ HB)⟩
                  | true =>
                    have HA2:=Aside0.mk (show L l5 _ _ = some r by simpa using h)
                    clear h
                    go_wp2_with (first | (go_at_call 48;refine (HL.out A4 c4 l4 _ _ _ _ (Kd.C_below HR4.out (hb_ HB)) hc4 HA.out).mono ?_;rintro e w' ⟨rfl,hb⟩;have n1:=Aside0.mk (OkAt.step HOk.out hb);have n2:=Aside0.mk (below_step (hb_ HB) hb);clear e0 e1 e2 e3 e4 e5 f1 f2 f3 f4 HB HOk hb;have HOk:=n1;have HB:=n2;clear n1 n2;obtain ⟨e0,e1,e2,e3,e4,e5,f1,f2,f3,f4⟩:=HOk.out.cells;clear HA) | (go_at_call 48;refine (HL.out A5 c5 l5 _ _ _ _ (Kd.C_below HR5.out (hb_ HB)) hc5 HA2.out).mono ?_;rintro e w' ⟨rfl,hb⟩;have n2:=Aside0.mk (below_step (hb_ HB) hb);clear HB hb;have HB:=n2;clear n2))
                    go_ret
                    exact ⟨by first | rfl | (simp;done) | (simp [*];done),(hb_ HB)⟩
              · rw [if_neg k7] at h
                have k7a : (a0 == 9) = false:=by simpa using k7
                clear k7
                unfold both at h
                obtain ⟨x1,ha,h⟩:=Option.bind_eq_some_iff.1 h
                have HA:=Aside0.mk ha
                clear ha
                cases x1 with
                | false =>
                  obtain rfl:=Option.some.inj (show some false = some r by simpa using h)
                  clear h
                  go_wp2_with (first | (go_at_call 48;refine (HL.out A4 c4 l4 _ _ _ _ (Kd.C_below HR4.out (hb_ HB)) hc4 HA.out).mono ?_;rintro e w' ⟨rfl,hb⟩;have n1:=Aside0.mk (OkAt.step HOk.out hb);have n2:=Aside0.mk (below_step (hb_ HB) hb);clear e0 e1 e2 e3 e4 e5 f1 f2 f3 f4 HB HOk hb;have HOk:=n1;have HB:=n2;clear n1 n2;obtain ⟨e0,e1,e2,e3,e4,e5,f1,f2,f3,f4⟩:=HOk.out.cells;clear HA))
                  go_ret
                  exact ⟨by first | rfl | (simp;done) | (simp [*];done),(hb_ HB)⟩
                | true =>
                  have HA2:=Aside0.mk (show L l5 _ _ = some r by simpa using h)
                  clear h
                  go_wp2_with (first | (go_at_call 48;refine (HL.out A4 c4 l4 _ _ _ _ (Kd.C_below HR4.out (hb_ HB)) hc4 HA.out).mono ?_;rintro e w' ⟨rfl,hb⟩;have n1:=Aside0.mk (OkAt.step HOk.out hb);have n2:=Aside0.mk (below_step (hb_ HB) hb);clear e0 e1 e2 e3 e4 e5 f1 f2 f3 f4 HB HOk hb;have HOk:=n1;have HB:=n2;clear n1 n2;obtain ⟨e0,e1,e2,e3,e4,e5,f1,f2,f3,f4⟩:=HOk.out.cells;clear HA) | (go_at_call 48;refine (HL.out A5 c5 l5 _ _ _ _ (Kd.C_below HR5.out (hb_ HB)) hc5 HA2.out).mono ?_;rintro e w' ⟨rfl,hb⟩;have n2:=Aside0.mk (below_step (hb_ HB) hb);clear HB hb;have HB:=n2;clear n2))
                  go_ret
                  exact ⟨by first | rfl | (simp;done) | (simp [*];done),(hb_ HB)⟩
      · rw [if_neg k3] at h
        rw [Bool.not_eq_true] at k3
        obtain rfl:=Option.some.inj h
        go_wp2_with (first | (go_at_call 60;refine (impl_fits.calls _ _ _ _ (fits_eq _ _)).mono ?_;rintro e w' ⟨rfl,⟨nd,rfl⟩⟩))
        go_ret
        exact ⟨by first | rfl | (simp;done) | (simp [*];done),(hb_ HB)⟩
    · rw [if_neg k2] at h
      rw [Bool.not_eq_true] at k2
      obtain rfl:=Option.some.inj h
      go_wp2_with (first | (go_at_call 60;refine (impl_fits.calls _ _ _ _ (fits_eq _ _)).mono ?_;rintro e w' ⟨rfl,⟨nd,rfl⟩⟩))
      go_ret
      exact ⟨by first | rfl | (simp;done) | (simp [*];done),(hb_ HB)⟩
  · rw [if_neg k0] at h
    rw [Bool.not_eq_true] at k0
    obtain rfl:=Option.some.inj h
    go_wp2
    go_ret
    exact ⟨by first | rfl | (simp;done) | (simp [*];done),(hb_ HB)⟩
end Go.Proofs.Ytdjkmnkgaacmfaa.P

namespace Go.Proofs.Ytdjkmnkgaacmfaa.P
open Go.RowKit Go.Maps Go.Proofs.YtdjkmnkgaacmfaaW.PrintWords Go.Proofs.YtdjkmnkgaacmfaaW.PrintLast Go.Proofs.YtdjkmnkgaacmfaaW.PrintMore
attribute [local go_sem] max2_int min2_int max_two min_two max_three min_three max_four min_four
set_option linter.unusedVariables false
set_option linter.unusedSimpArgs false
def listM (T : S61 → Option Bool) : List S61 → Option Bool
  | []=>some true
  | x :: t=>(T x).bind fun b=>if b = true then listM T t else some false
def SaysT (T : S61 → Int → Int → Option Bool) : Prop:=∀ (x : S61) (A4 : Option Addr) (c4 : Nat) (A5 : Option Addr) (c5 : Nat) (deep room : Int) (r : Bool) (w : World),Kd.C k61 w A4 x.f4.length x.f4 → x.f4.length ≤ c4 → Kd.C k61 w A5 x.f5.length x.f5 → x.f5.length ≤ c5 → T x deep room = some r →
  Calls Try.prog 54 #[.agg #[.int .i64 x.f0,.int .i64 x.f1,.int .i64 x.f2,.int .i64 x.f3,.slice A4 x.f4.length c4,.slice A5 x.f5.length c5],.int .i64 deep,.int .i64 room] w fun e w'=>e = .returned (.bool r) ∧ Below w.heap.size w w'
set_option maxHeartbeats 2000000 in
set_option maxRecDepth 100000 in
theorem listOk1_calls (T : S61 → Int → Int → Option Bool) (hT : SaysT T) (x : S61) (A4 : Option Addr) (c4 : Nat) (A5 : Option Addr) (c5 : Nat) (b1 b2 : Nat) (deep room : Int) (r : Bool) (w : World)
    (hd : w.cell? ⟨b1,0,none⟩ = some (.int .i64 deep)) (hm : w.cell? ⟨b2,0,none⟩ = some (.int .i64 room)) (h4 : Kd.C k61 w A4 x.f4.length x.f4) (hc4 : x.f4.length ≤ c4) (h5 : Kd.C k61 w A5 x.f5.length x.f5) (hc5 : x.f5.length ≤ c5) (h : T x deep room = some r) :
    Calls Try.prog 53 #[.agg #[.int .i64 x.f0,.int .i64 x.f1,.int .i64 x.f2,.int .i64 x.f3,.slice A4 x.f4.length c4,.slice A5 x.f5.length c5],.pointer (some ⟨b1,0,none⟩),.pointer (some ⟨b2,0,none⟩)] w fun e w'=>e = .returned (.bool (!r)) ∧ Below w.heap.size w w':=by
  have HT:=Aside0.mk hT
  have H4:=Aside0.mk h4
  have H5:=Aside0.mk h5
  have H:=Aside0.mk h
  have l1:=World.block_lt_of_cell? w _ hd
  have l2:=World.block_lt_of_cell? w _ hm
  have m1 : ∀ o,(w.alloc o).cell? ⟨b1,0,none⟩ = some (.int .i64 deep):=fun o=>((below_alloc (Below.refl _ w) o).cell l1).trans hd
  have m2 : ∀ o,(w.alloc o).cell? ⟨b2,0,none⟩ = some (.int .i64 room):=fun o=>((below_alloc (Below.refl _ w) o).cell l2).trans hm
  have hu:=Try.underlying61
  clear hT h4 h5 h
  go_enter Try.func53,Try.ntmps53
  go_wp2_with (go_at_call 54;refine (HT.out x A4 c4 A5 c5 deep room r _ (Kd.C_alloc H4.out _) hc4 (Kd.C_alloc H5.out _) hc5 H.out).mono ?_;rintro e w' ⟨rfl,hb⟩;have HB:=Aside0.mk (below_step (below_alloc (Below.refl _ w) _) hb);clear hb)
  go_ret
  exact ⟨by first | rfl | (simp;done),(by repeat (first | exact HB.out | (with_reducible apply pw_below_drewN) | (with_reducible apply below_drew1) | (with_reducible apply below_alloc) | exact Below.refl _ _))⟩
set_option maxHeartbeats 4000000 in
theorem stIdx_calls (T : S61 → Int → Int → Option Bool) (hT : SaysT T) (A : Option Addr) (c : Nat) (l : List S61) (b1 b2 : Nat) (deep room : Int) (r : Bool) (w : World)
    (hd : w.cell? ⟨b1,0,none⟩ = some (.int .i64 deep)) (hm : w.cell? ⟨b2,0,none⟩ = some (.int .i64 room)) (hr : Kd.C k61 w A l.length l) (h : listM (fun x=>T x deep room) l = some r) :
    Calls Try.prog 58 #[.slice A l.length c,.func (.func 53) #[] #[.pointer (some ⟨b1,0,none⟩),.pointer (some ⟨b2,0,none⟩)]] w fun e w'=>(∃ i : Int,e = .returned (.int .i64 i) ∧ decide (0 ≤ i) = !r) ∧ Below w.heap.size w w':=by
  have HT:=Aside0.mk hT
  have HR:=Aside0.mk hr
  have H:=Aside0.mk h
  have HD:=Aside0.mk hd
  have HM:=Aside0.mk hm
  have hl : l.length ≤ 9223372036854775807:=hr.2.1
  have l1:=World.block_lt_of_cell? w _ hd
  have l2:=World.block_lt_of_cell? w _ hm
  have hu:=Try.underlying61
  clear hT hr h hd hm
  go_enter Try.func58,Try.ntmps58
  go_wp2
  go_loopg [5,8] l.length (fun gg _ s8 wr=>∃ kk : Nat,kk ≤ l.length ∧ l.length - kk ≤ gg ∧ s8 = .int .i64 kk ∧ Aside0 (listM (fun x=>T x deep room) (l.drop kk) = some r) ∧ Aside0 (Below w.heap.size w wr))
  case atStart=>exact ⟨0,Nat.zero_le _,by omega,rfl,H,⟨Below.refl _ w⟩⟩
  case round =>
    obtain ⟨kk,hkk,hg,rfl,HA,HB⟩:=hrel
    clear H
    by_cases hlt : kk < l.length
    · have hltz : decide ((kk : Int) < (l.length : Int)) = true:=decide_eq_true (by omega)
      have p1 : 0 ≤ (kk : Int):=by omega
      have q1 : (kk : Int) < (l.length : Int):=by omega
      obtain ⟨ad,A4,c4,A5,c5,e1,g0,g1,g2,g3,g4,g5,hc4,H4,hc5,H5⟩:=at_T61 (Kd.C_below HR.out HB.out) (kk : Int) p1 q1
      cases e1
      rw [Int.toNat_natCast] at g0 g1 g2 g3 g4 g5
      have ex : l.drop kk = rd_T61 l (kk : Int) :: l.drop (kk + 1):=by
        rw [List.drop_eq_getElem_cons hlt]
        unfold rd_T61
        rw [Int.toNat_natCast,List.getD_eq_getElem?_getD,List.getElem?_eq_getElem hlt]
        rfl
      have ha:=HA.out
      rw [ex] at ha
      clear HA ex
      obtain ⟨b,hb1,hb2⟩:=Option.bind_eq_some_iff.1 ha
      clear ha
      have hcall:=fun W hD hM h4 h5=>listOk1_calls T HT.out (rd_T61 l (kk : Int)) A4 c4 A5 c5 b1 b2 deep room b W hD hM h4 hc4 h5 hc5 hb1
      have hcall2:=hcall _ ((HB.out.cell l1).trans HD.out) ((HB.out.cell l2).trans HM.out) H4 H5
      clear hcall hb1 H4 H5
      generalize rd_T61 l (kk : Int) = x at *
      replace p1:=eq_true p1
      replace q1:=eq_true q1
      have HC:=Aside0.mk hcall2
      clear hcall2
      cases b with
      | false =>
        obtain rfl:=Option.some.inj (show some false = some r by simpa using hb2)
        clear hb2
        go_wp2_with (go_at_call 53;refine HC.out.mono ?_;rintro e w' ⟨rfl,hb'⟩;have n2:=Aside0.mk (below_step HB.out hb');clear HB HC hb' g0 g1 g2 g3 g4 g5;have HB:=n2;clear n2)
        go_ret
        exact ⟨⟨(kk : Int),rfl,by rw [decide_eq_true (by omega : (0 : Int) ≤ kk)];rfl⟩,(by repeat (first | exact HB.out | (with_reducible apply pw_below_drewN) | (with_reducible apply below_drew1) | (with_reducible apply below_alloc) | exact Below.refl _ _))⟩
      | true =>
        have HN:=Aside0.mk (show listM (fun x=>T x deep room) (l.drop (kk + 1)) = some r by simpa using hb2)
        clear hb2
        go_wp2_with (go_at_call 53;refine HC.out.mono ?_;rintro e w' ⟨rfl,hb'⟩;have n2:=Aside0.mk (below_step HB.out hb');clear HB HC hb' g0 g1 g2 g3 g4 g5;have HB:=n2;clear n2)
        go_roundg (l.length - (kk + 1))
        case measure=>omega
        case rel=>exact ⟨kk + 1,by omega,by omega,by go_num,HN,⟨(by repeat (first | exact HB.out | (with_reducible apply pw_below_drewN) | (with_reducible apply below_drew1) | (with_reducible apply below_alloc) | exact Below.refl _ _))⟩⟩
    · have hltz : decide ((kk : Int) < (l.length : Int)) = false:=decide_eq_false (by omega)
      have ha:=HA.out
      rw [List.drop_of_length_le (by omega)] at ha
      obtain rfl:=Option.some.inj (show some true = some r from ha)
      clear ha HA
      go_wp2
      go_ret
      exact ⟨⟨-1,rfl,by rw [decide_eq_false (by omega)];rfl⟩,(by repeat (first | exact HB.out | (with_reducible apply pw_below_drewN) | (with_reducible apply below_drew1) | (with_reducible apply below_alloc) | exact Below.refl _ _))⟩
end Go.Proofs.Ytdjkmnkgaacmfaa.P
namespace Go.Proofs.Ytdjkmnkgaacmfaa.P
open Go.RowKit Go.Maps Go.Proofs.YtdjkmnkgaacmfaaW.PrintWords Go.Proofs.YtdjkmnkgaacmfaaW.PrintLast Go.Proofs.YtdjkmnkgaacmfaaW.PrintMore
attribute [local go_sem] max2_int min2_int max_two min_two max_three min_three max_four min_four
set_option linter.unusedVariables false
set_option linter.unusedSimpArgs false
theorem stAny_calls (T : S61 → Int → Int → Option Bool) (hT : SaysT T) (A : Option Addr) (c : Nat) (l : List S61) (b1 b2 : Nat) (deep room : Int) (r : Bool) (w : World)
    (hd : w.cell? ⟨b1,0,none⟩ = some (.int .i64 deep)) (hm : w.cell? ⟨b2,0,none⟩ = some (.int .i64 room)) (hr : Kd.C k61 w A l.length l) (h : listM (fun x=>T x deep room) l = some r) :
    Calls Try.prog 52 #[.slice A l.length c,.func (.func 53) #[] #[.pointer (some ⟨b1,0,none⟩),.pointer (some ⟨b2,0,none⟩)]] w fun e w'=>e = .returned (.bool (!r)) ∧ Below w.heap.size w w':=by
  have HI:=Aside0.mk (stIdx_calls T hT A c l b1 b2 deep room r w hd hm hr h)
  clear hT hd hm hr h
  go_enter Try.func52,Try.ntmps52
  go_wp2_with (go_at_call 58;refine HI.out.mono ?_;rintro e w' ⟨⟨i,rfl,hi⟩,hb⟩;have HB:=Aside0.mk hb;clear hb)
  go_ret
  exact ⟨by first | rfl | rw [hi],(by repeat (first | exact HB.out | (with_reducible apply pw_below_drewN) | (with_reducible apply below_drew1) | (with_reducible apply below_alloc) | exact Below.refl _ _))⟩
set_option maxHeartbeats 2000000 in
set_option maxRecDepth 100000 in
theorem listOk_walk (T : S61 → Int → Int → Option Bool) (hT : SaysT T) (A : Option Addr) (c : Nat) (l : List S61) (deep room : Int) (r : Bool) (w : World)
    (hr : Kd.C k61 w A l.length l) (hc : l.length ≤ c) (h : listM (fun x=>T x deep room) l = some r) :
    Calls Try.prog 48 #[.slice A l.length c,.int .i64 deep,.int .i64 room] w fun e w'=>e = .returned (.bool r) ∧ Below w.heap.size w w':=by
  have HT:=Aside0.mk hT
  have HR:=Aside0.mk hr
  have H:=Aside0.mk h
  have hmf : ∀ (fn : Fn) (first cap : Array Value) (w : World),(Instr.makeFunc fn first cap).run Try.prog w = .ok (.func fn first cap) w:=by
    intros
    rfl
  clear hT hr h
  go_enter Try.func48,Try.ntmps48
  go_wp2_with (go_at_call 52;refine (stAny_calls T HT.out A c l w.heap.size (w.heap.size + 1) deep room r _ (cell_of (blk_alloc (blk_new w _) _) 0 rfl) (cell_of (by rw [← size_alloc w];exact blk_new _ _) 0 rfl) (Kd.C_alloc (Kd.C_alloc HR.out _) _) H.out).mono ?_;rintro e w' ⟨rfl,hb⟩;have HB:=Aside0.mk (below_step (below_alloc (below_alloc (Below.refl _ w) _) _) hb);clear hb)
  go_ret
  exact ⟨by first | rfl | (simp;done),(by repeat (first | exact HB.out | (with_reducible apply pw_below_drewN) | (with_reducible apply below_drew1) | (with_reducible apply below_alloc) | exact Below.refl _ _))⟩
def stmtOkS : Nat → S61 → Int → Int → Option Bool
  | 0=>fun _ _ _=>none
  | k + 1=>fun s d m=>stmtBody (fun l d m=>listM (fun x=>stmtOkS k x d m) l) s.f0 s.f1 s.f2 s.f3 s.f4 s.f5 d m
theorem stmtOkS_says : ∀ k,SaysT (stmtOkS k)
  | 0=>fun _ _ _ _ _ _ _ _ _ _ _ _ _ h=>by cases h
  | k + 1=>fun x A4 c4 A5 c5 deep room r w h4 hc4 h5 hc5 h =>
    stmtOk_walk (fun l d m=>listM (fun x=>stmtOkS k x d m) l) (fun A c l d rm b W hC hc hl=>listOk_walk (stmtOkS k) (stmtOkS_says k) A c l d rm b W hC hc hl) x.f0 x.f1 x.f2 x.f3 A4 c4 x.f4 A5 c5 x.f5 deep room r w h4 hc4 h5 hc5 h
def impl_listOk.f (k : Nat) (l0 : List S61) (a1 a2 : Int) : Option Bool:=listM (fun x=>stmtOkS k x a1 a2) l0
theorem impl_listOk.calls (k : Nat) (A0 : Option Addr) (c0 : Nat) (l0 : List S61) (a1 a2 : Int) (r : Bool) (w : World) (hr0 : Kd.C k61 w A0 l0.length l0) (hc0 : l0.length ≤ c0) (h : impl_listOk.f k l0 a1 a2 = some r) :
    Calls Try.prog 48 #[.slice A0 l0.length c0,.int .i64 a1,.int .i64 a2] w fun e w'=>e = .returned (.bool r) ∧ Below w.heap.size w w':=listOk_walk (stmtOkS k) (stmtOkS_says k) A0 c0 l0 a1 a2 r w hr0 hc0 h
def impl_stmtOk.f (k : Nat) (a0_0 a0_1 a0_2 a0_3 : Int) (l0_4 l0_5 : List S61) (a1 a2 : Int) : Option Bool:=stmtOkS k ⟨a0_0,a0_1,a0_2,a0_3,l0_4,l0_5⟩ a1 a2
end Go.Proofs.Ytdjkmnkgaacmfaa.P
