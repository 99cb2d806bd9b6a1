/- Parts of the proof of FnExactCodeOk: plain Lean functions of Go functions, and that the calls come to what they say; no condition beyond those that each theorem names. -/
import Derived.Test.YtphbdoljkpdflaaZFnExactCodeOk13
import Derived.Test.YtphbdoljkpdflaaZFnExactCodeOk14
import Derived.Test.YtphbdoljkpdflaaZFnExactCodeOk9
import Derived.Test.YtphbdoljkpdflaaZFnExactCodeOk4
namespace Go.Proofs.Ytphbdoljkpdflaa.P
open Go.RowKit Go.Proofs.YtphbdoljkpdflaaW.PrintWords Go.Proofs.YtphbdoljkpdflaaW.PrintMore
set_option linter.unusedVariables false
set_option linter.unusedSimpArgs false
def SL (d : Nat) (l : List S46) : Prop := l.length ≤ 1048576 ∧ ∀ x ∈ l, smallS d x
def dep : Nat → List S46 → Prop
  | 0, l => l = []
  | d + 1, l => ∀ x ∈ l, dep d x.f4 ∧ dep d x.f5
def cntL : Nat → List S46 → Nat
  | 0, _ => 0
  | d + 1, l => (l.map fun x => 1 + cntL d x.f4 + cntL d x.f5).sum
def flatL : Nat → List S46 → Int → List I5
  | 0, _, _ => []
  | d + 1, l, rm => l.flatMap fun x => (x.f0, x.f1, x.f2, x.f3, rm) :: (flatL d x.f4 (innR x rm) ++ flatL d x.f5 (innR x rm))
def okList (l : List S46) : Bool := l.all fun x => okS 3 x (-1)
def okLst (l : List S46) : Bool := okList l && decide (wrap64 (cntL 3 l) ≤ 14)
def manyV (l : List S46) : Int := if okLst l = true then wrap64 (cntL 3 l) else 0
end Go.Proofs.Ytphbdoljkpdflaa.P

namespace Go.Proofs.Ytphbdoljkpdflaa.P
set_option linter.unusedVariables false
set_option linter.unusedSimpArgs false
def LeafI (i : S42) (rm : Int) : Prop :=
  (i.f0 = 1 ∧ 0 ≤ i.f1 ∧ i.f1 < 3 ∧ i.f2 = 0 ∧ -999 ≤ i.f3 ∧ i.f3 ≤ 999) ∨ (i.f0 = 2 ∧ 0 ≤ i.f1 ∧ i.f1 < 3 ∧ 0 ≤ i.f2 ∧ i.f2 < 3 ∧ 1 ≤ i.f3 ∧ i.f3 ≤ 5) ∨
  ((i.f0 = 3 ∨ i.f0 = 4) ∧ 0 ≤ i.f1 ∧ i.f1 < 3 ∧ 0 ≤ i.f2 ∧ i.f2 < 3 ∧ i.f3 = 0) ∨ (i.f0 = 5 ∧ 0 ≤ i.f1 ∧ i.f1 < 3 ∧ i.f2 = 0 ∧ i.f3 = 0) ∨
  (i.f0 = 10 ∧ 0 ≤ rm ∧ 0 ≤ i.f1 ∧ i.f1 < 2 ∧ i.f2 = 0 ∧ i.f3 = 0) ∨ (i.f0 = 11 ∧ 0 ≤ i.f1 ∧ i.f1 < 2 ∧ i.f2 = 0 ∧ i.f3 = 0) ∨ (i.f0 = 12 ∧ i.f1 = 0 ∧ i.f2 = 0 ∧ i.f3 = 0)
inductive Blk (c : List S42) : Int → Nat → Nat → Prop
  | nil (rm : Int) (p : Nat) : Blk c rm p p
  | app {rm : Int} {p q r : Nat} : Blk c rm p q → Blk c rm q r → Blk c rm p r
  | leaf {rm : Int} {p : Nat} {i : S42} : c[p]? = some i → LeafI i rm → Blk c rm p (p + 1)
  | cond {rm a : Int} {p q r : Nat} : c[p]? = some ⟨6, a, 0, ((q + 1 : Nat) : Int)⟩ → 0 ≤ a → a < 3 → Blk c rm (p + 1) q → c[q]? = some ⟨7, 0, 0, (r : Int)⟩ → Blk c rm (q + 1) r → Blk c rm p r
  | loop {rm a : Int} {p q : Nat} : c[p]? = some ⟨6, a, 0, ((q + 1 : Nat) : Int)⟩ → 0 ≤ a → a < 3 → Blk c rm (p + 1) q → c[q]? = some ⟨7, 0, 0, (p : Int)⟩ → Blk c rm p (q + 1)
  | room {a : Int} {p q : Nat} : c[p]? = some ⟨8, a, 0, 0⟩ → 0 ≤ a → a < 2 → Blk c a (p + 1) q → c[q]? = some ⟨9, a, 0, 0⟩ → Blk c (-1) p (q + 1)
theorem Blk.le {c : List S42} {rm : Int} {p q : Nat} (h : Blk c rm p q) : p ≤ q := by
  induction h <;> omega
def labI (c : List S42) : Nat → Int
  | 0 => -1
  | j + 1 => match c[j]? with
    | none => labI c j
    | some i => if i.f0 = 8 then i.f1 else if i.f0 = 9 then -1 else labI c j
theorem lab_step {c : List S42} {j : Nat} {i : S42} (h : c[j]? = some i) : labI c (j + 1) = if i.f0 = 8 then i.f1 else if i.f0 = 9 then -1 else labI c j := by
  rw [labI, h]
def movI (i : S42) (rm : Int) : Int × Bool :=
  if i.f0 = 8 then (i.f1, decide (rm = -1)) else if i.f0 = 9 then (-1, decide (rm = i.f1)) else if i.f0 = 10 then (rm, decide (rm ≠ -1)) else if i.f0 = 13 then (rm, decide (rm = -1)) else (rm, true)
def sucI (i : S42) (j : Nat) : List Int :=
  if i.f0 = 13 then [] else if i.f0 = 7 then [i.f3] else if i.f0 = 6 then [((j + 1 : Nat) : Int), i.f3] else [((j + 1 : Nat) : Int)]
def FitI (c : List S42) (p q j : Nat) : Prop := ∃ i, c[j]? = some i ∧ (movI i (labI c j)).2 = true ∧ ∀ t ∈ sucI i j, ∃ n : Nat, t = (n : Int) ∧ p ≤ n ∧ n ≤ q ∧ labI c n = (movI i (labI c j)).1
theorem FitI.mono {c : List S42} {p q p' q' j : Nat} (h : FitI c p q j) (hp : p' ≤ p) (hq : q ≤ q') : FitI c p' q' j := by
  obtain ⟨i, h1, h2, h3⟩ := h
  exact ⟨i, h1, h2, fun t ht => by obtain ⟨n, e, a, b, l⟩ := h3 t ht; exact ⟨n, e, by omega, by omega, l⟩⟩
theorem Blk.fit {c : List S42} {rm : Int} {p q : Nat} (h : Blk c rm p q) : labI c p = rm → labI c q = rm ∧ ∀ j, p ≤ j → j < q → FitI c p q j := by
  induction h with
  | nil => exact fun h => ⟨h, fun j _ _ => by omega⟩
  | @app rm p q r h1 h2 ih1 ih2 =>
    intro h
    have := h1.le
    have := h2.le
    obtain ⟨e1, f1⟩ := ih1 h
    obtain ⟨e2, f2⟩ := ih2 e1
    refine ⟨e2, fun j a b => ?_⟩
    rcases Nat.lt_or_ge j q with hj | hj
    · exact (f1 j a hj).mono (by omega) (by omega)
    · exact (f2 j hj b).mono (by omega) (by omega)
  | @leaf rm p i hc hl =>
    intro h
    have e := lab_step hc
    have n8 : ¬ i.f0 = 8 := by unfold LeafI at hl; omega
    have n9 : ¬ i.f0 = 9 := by unfold LeafI at hl; omega
    have n13 : ¬ i.f0 = 13 := by unfold LeafI at hl; omega
    have n6 : ¬ i.f0 = 6 := by unfold LeafI at hl; omega
    have n7 : ¬ i.f0 = 7 := by unfold LeafI at hl; omega
    rw [if_neg n8, if_neg n9, h] at e
    refine ⟨e, fun j a b => ?_⟩
    obtain rfl : j = p := by omega
    have hm : movI i (labI c j) = (rm, true) := by
      unfold movI
      rw [if_neg n8, if_neg n9, if_neg n13, h]
      by_cases n10 : i.f0 = 10
      · rw [if_pos n10]
        have : rm ≠ -1 := by unfold LeafI at hl; omega
        rw [decide_eq_true this]
      · rw [if_neg n10]
    refine ⟨i, hc, by rw [hm], fun t ht => ?_⟩
    unfold sucI at ht
    rw [if_neg n13, if_neg n7, if_neg n6] at ht
    obtain rfl := List.mem_singleton.1 ht
    exact ⟨j + 1, rfl, by omega, by omega, by rw [hm, e]⟩
  | @cond rm a p q r hc ha hb h1 hd h2 ih1 ih2 =>
    intro h
    have l1 := h1.le
    have l2 := h2.le
    have e1 : labI c (p + 1) = rm := (lab_step hc).trans (by simpa using h)
    obtain ⟨e2, f2⟩ := ih1 e1
    have e3 : labI c (q + 1) = rm := (lab_step hd).trans (by simpa using e2)
    obtain ⟨e4, f4⟩ := ih2 e3
    refine ⟨e4, fun j a b => ?_⟩
    rcases Nat.lt_trichotomy j q with hj | rfl | hj
    · by_cases hp : j = p
      · subst hp
        refine ⟨_, hc, by simp [movI], fun t ht => ?_⟩
        have hm : movI ⟨6, ‹Int›, 0, ((q + 1 : Nat) : Int)⟩ (labI c j) = (rm, true) := by simp [movI, h]
        simp only [sucI] at ht
        simp at ht
        rcases ht with rfl | rfl
        · exact ⟨j + 1, by simp, by omega, by omega, by simp [movI, h, e1]⟩
        · exact ⟨q + 1, by simp, by omega, by omega, by simp [movI, h, e3]⟩
      · exact (f2 j (by omega) hj).mono (by omega) (by omega)
    · refine ⟨_, hd, by simp [movI], fun t ht => ?_⟩
      simp [sucI] at ht
      subst ht
      exact ⟨r, rfl, by omega, by omega, by simp [movI, e2, e4]⟩
    · exact (f4 j (by omega) b).mono (by omega) (by omega)
  | @loop rm a p q hc ha hb h1 hd ih1 =>
    intro h
    have l1 := h1.le
    have e1 : labI c (p + 1) = rm := (lab_step hc).trans (by simpa using h)
    obtain ⟨e2, f2⟩ := ih1 e1
    have e3 : labI c (q + 1) = rm := (lab_step hd).trans (by simpa using e2)
    refine ⟨e3, fun j a b => ?_⟩
    rcases Nat.lt_trichotomy j q with hj | rfl | hj
    · by_cases hp : j = p
      · subst hp
        refine ⟨_, hc, by simp [movI], fun t ht => ?_⟩
        simp [sucI] at ht
        rcases ht with rfl | rfl
        · exact ⟨j + 1, by simp, by omega, by omega, by simp [movI, h, e1]⟩
        · exact ⟨q + 1, by simp, by omega, by omega, by simp [movI, h, e3]⟩
      · exact (f2 j (by omega) hj).mono (by omega) (by omega)
    · refine ⟨_, hd, by simp [movI], fun t ht => ?_⟩
      simp [sucI] at ht
      subst ht
      exact ⟨p, rfl, by omega, by omega, by simp [movI, e2, h]⟩
    · omega
  | @room a p q hc ha hb h1 hd ih1 =>
    intro h
    have l1 := h1.le
    have e1 : labI c (p + 1) = a := (lab_step hc).trans (by simp)
    obtain ⟨e2, f2⟩ := ih1 e1
    have e3 : labI c (q + 1) = -1 := (lab_step hd).trans (by simp)
    refine ⟨e3, fun j a b => ?_⟩
    rcases Nat.lt_trichotomy j q with hj | rfl | hj
    · by_cases hp : j = p
      · subst hp
        refine ⟨_, hc, by simp [movI, h], fun t ht => ?_⟩
        simp [sucI] at ht
        subst ht
        exact ⟨j + 1, by simp, by omega, by omega, by simp [movI, e1]⟩
      · exact (f2 j (by omega) hj).mono (by omega) (by omega)
    · refine ⟨_, hd, by simp [movI, e2], fun t ht => ?_⟩
      simp [sucI] at ht
      subst ht
      exact ⟨j + 1, by simp, by omega, by omega, by simp [movI, e3]⟩
    · omega
def InsI (i : S42) (n : Nat) : Prop :=
  LeafI i 0 ∨ (i.f0 = 6 ∧ 0 ≤ i.f1 ∧ i.f1 < 3 ∧ i.f2 = 0 ∧ 0 ≤ i.f3 ∧ i.f3 < n) ∨ (i.f0 = 7 ∧ i.f1 = 0 ∧ i.f2 = 0 ∧ 0 ≤ i.f3 ∧ i.f3 < n) ∨
  ((i.f0 = 8 ∨ i.f0 = 9) ∧ 0 ≤ i.f1 ∧ i.f1 < 2 ∧ i.f2 = 0 ∧ i.f3 = 0) ∨ (i.f0 = 13 ∧ i.f1 = 0 ∧ i.f2 = 0 ∧ i.f3 = 0)
def JmpI (c : List S42) (p q j : Nat) : Prop := ∃ i, c[j]? = some i ∧ (i.f0 = 6 → ∃ t : Nat, i.f3 = (t : Int) ∧ j < t ∧ t ≤ q ∧ ∃ i', c[t - 1]? = some i' ∧ i'.f0 = 7) ∧
  (i.f0 = 7 → ∃ t : Nat, i.f3 = (t : Int) ∧ p ≤ t ∧ ((j < t ∧ t ≤ q) ∨ (t < j ∧ ∃ i', c[t]? = some i' ∧ i'.f0 = 6)))
theorem JmpI.mono {c : List S42} {p q p' q' j : Nat} (h : JmpI c p q j) (hp : p' ≤ p) (hq : q ≤ q') : JmpI c p' q' j := by
  obtain ⟨i, h1, h2, h3⟩ := h
  refine ⟨i, h1, fun e => ?_, fun e => ?_⟩
  · obtain ⟨t, a, b, c, d⟩ := h2 e
    exact ⟨t, a, b, by omega, d⟩
  · obtain ⟨t, a, b, c⟩ := h3 e
    exact ⟨t, a, by omega, c.imp (fun c => ⟨c.1, by omega⟩) id⟩
def balI (c : List S42) (p : Nat) : Nat → Int
  | 0 => 0
  | n + 1 => balI c p n + match c[p + n]? with
    | none => 0
    | some i => if i.f0 = 6 then 1 else if i.f0 = 7 then -1 else 0
def scanI (c : List S42) (m : Int) (p : Nat) (s : Bool) : Nat → Option Bool
  | 0 => some s
  | n + 1 => (scanI c m p s n).bind fun b => match c[p + n]? with
    | none => none
    | some i => if i.f1 = m then if i.f0 = 8 then if b = true then none else some true else if i.f0 = 9 then if b = true then some false else none else some b else some b
def seqC (f : S46 → Nat → List S42) : List S46 → Nat → List S42
  | [], _ => []
  | x :: t, p => f x p ++ seqC f t (p + (f x p).length)
def leafC (s : S46) : S42 := if s.f0 = 9 then ⟨10, s.f1, 0, 0⟩ else if s.f0 = 10 then ⟨11, s.f1, 0, 0⟩ else if s.f0 = 1 ∨ s.f0 = 2 ∨ s.f0 = 3 ∨ s.f0 = 4 ∨ s.f0 = 5 then ⟨s.f0, s.f1, s.f2, s.f3⟩ else ⟨12, 0, 0, 0⟩
def oneC (g : List S46 → Nat → List S42) (s : S46) (p : Nat) : List S42 :=
  if s.f0 = 6 then ⟨6, s.f1, 0, ((p + 2 + (g s.f4 (p + 1)).length : Nat) : Int)⟩ :: (g s.f4 (p + 1) ++ ⟨7, 0, 0, ((p + 2 + (g s.f4 (p + 1)).length + (g s.f5 (p + 2 + (g s.f4 (p + 1)).length)).length : Nat) : Int)⟩ :: g s.f5 (p + 2 + (g s.f4 (p + 1)).length))
  else if s.f0 = 7 then ⟨6, s.f1, 0, ((p + 2 + (g s.f4 (p + 1)).length : Nat) : Int)⟩ :: (g s.f4 (p + 1) ++ [⟨7, 0, 0, (p : Int)⟩])
  else if s.f0 = 8 then ⟨8, s.f1, 0, 0⟩ :: (g s.f4 (p + 1) ++ [⟨9, s.f1, 0, 0⟩])
  else [leafC s]
def codL : Nat → List S46 → Nat → List S42
  | 0 => fun _ _ => []
  | d + 1 => seqC (oneC (codL d))
def Emb (c : List S42) (p : Nat) (s : List S42) : Prop := ∃ a b, c = a ++ (s ++ b) ∧ a.length = p
theorem Emb.app {c : List S42} {p : Nat} {s t : List S42} (h : Emb c p (s ++ t)) : Emb c p s ∧ Emb c (p + s.length) t := by
  obtain ⟨a, b, e, l⟩ := h
  exact ⟨⟨a, t ++ b, by rw [e, List.append_assoc], l⟩, ⟨a ++ s, b, by rw [e]; simp, by simp [l]⟩⟩
theorem Emb.cons {c : List S42} {p : Nat} {i : S42} {t : List S42} (h : Emb c p (i :: t)) : c[p]? = some i ∧ Emb c (p + 1) t := by
  obtain ⟨a, b, e, l⟩ := h
  refine ⟨?_, a ++ [i], b, by rw [e]; simp, by simp [l]⟩
  rw [e, List.getElem?_append_right (by omega), l]
  simp
theorem Emb.all (c : List S42) : Emb c 0 c := ⟨[], [], by simp, rfl⟩
def codF (l : List S46) : List S42 := codL 3 l 0 ++ [⟨13, 0, 0, 0⟩]
def shfI (n : Nat) (i : S42) : S42 := if i.f0 = 6 ∨ i.f0 = 7 then ⟨i.f0, i.f1, i.f2, i.f3 + n⟩ else i
end Go.Proofs.Ytphbdoljkpdflaa.P
