/- Parts of the proof of FnCodeBent: plain Lean functions of Go functions, and that the calls come to what they say; no condition beyond those that each theorem names. -/
import Derived.Test.YtphbdoljkpdflaaZFnCodeBent21
import Derived.Test.YtphbdoljkpdflaaZFnCodeBent14
import Derived.Deep.LoopGhost
import Derived.RegionTactic
import Derived.ChangeAlike
namespace Go.Proofs.Ytphbdoljkpdflaa.P
open Go.RowKit Go.Maps Go.Proofs.YtphbdoljkpdflaaW.PrintWords Go.Proofs.YtphbdoljkpdflaaW.PrintLast Go.Proofs.YtphbdoljkpdflaaW.PrintMore
attribute [local go_sem] max2_int min2_int max_two min_two max_three min_three max_four min_four
attribute [local go_sem ↓] Go.wp_at_zero Go.wp_at_succ
set_option linter.unusedVariables false
set_option linter.unusedSimpArgs false
abbrev Cm:=List S42 × List (Nat × Nat)
def emB (s : Cm) (i : S42) : Option Cm:=if s.1.length < 1000000000 ∧ s.2.length < 1000000000 then some (s.1 ++ [i],s.2) else none
def ltB (s : Cm) (a : Nat) : Option Cm:=if s.1.length < 1000000000 ∧ s.2.length < 1000000000 then some (s.1,s.2 ++ [(a,s.1.length)]) else none
def smp (k : Int) : Int:=if k = 1 then 1 else if k = 2 then 2 else if k = 3 then 3 else if k = 4 then 4 else if k = 5 then 5 else if k = 9 then 10 else if k = 10 then 11 else if k = 11 then 12 else 0
def cmOne (L : List S46 → Cm → Option Cm) (x : S46) (s : Cm) : Option Cm :=
  if x.f0 = 6 then (emB s ⟨6,x.f1,0,0⟩).bind fun s1=>(L x.f4 s1).bind fun s2=>(emB s2 ⟨7,0,0,0⟩).bind fun s3=>(ltB s3 s.1.length).bind fun s4=>(L x.f5 s4).bind fun s5=>ltB s5 s2.1.length
  else if x.f0 = 7 then (emB s ⟨6,x.f1,0,0⟩).bind fun s1=>(L x.f4 s1).bind fun s2=>(emB s2 ⟨7,0,0,(s.1.length : Int)⟩).bind fun s3=>ltB s3 s.1.length
  else if x.f0 = 8 then (emB s ⟨8,x.f1,0,0⟩).bind fun s1=>(L x.f4 s1).bind fun s2=>emB s2 ⟨9,x.f1,0,0⟩
  else emB s ⟨smp x.f0,x.f1,x.f2,x.f3⟩
def cmL (T : S46 → Cm → Option Cm) : List S46 → Cm → Option Cm
  | [],s=>some s
  | x :: t,s=>(T x s).bind fun s1=>cmL T t s1
def cmK : Nat → List S46 → Cm → Option Cm
  | 0=>fun _ _=>none
  | k + 1=>cmL (cmOne (cmK k))
def LSays (w0 : World) (g : Nat) (L : List S46 → Cm → Option Cm) : Prop :=
  ∀ (A : Option Addr) (c : Nat) (l : List S46) (s r : Cm) (W : World),Kd.C k46 w0 A l.length l → CSt w0 g s.1 s.2 W → L l s = some r →
    Calls Try.prog 64 #[.pointer (some ⟨g,0,none⟩),.slice A l.length c] W fun e W'=>e = .returned (.tuple #[]) ∧ CSt w0 g r.1 r.2 W' ∧ Kc W W'
def TSays (w0 : World) (g : Nat) (T : S46 → Cm → Option Cm) : Prop :=
  ∀ (A4 : Option Addr) (c4 : Nat) (A5 : Option Addr) (c5 : Nat) (x : S46) (s r : Cm) (W : World),Kd.C k46 w0 A4 x.f4.length x.f4 → Kd.C k46 w0 A5 x.f5.length x.f5 → CSt w0 g s.1 s.2 W → T x s = some r →
    Calls Try.prog 78 #[.pointer (some ⟨g,0,none⟩),.agg #[.int .i64 x.f0,.int .i64 x.f1,.int .i64 x.f2,.int .i64 x.f3,.slice A4 x.f4.length c4,.slice A5 x.f5.length c5]] W fun e W'=>e = .returned (.tuple #[]) ∧ CSt w0 g r.1 r.2 W' ∧ Kc W W'
end Go.Proofs.Ytphbdoljkpdflaa.P

namespace Go.Proofs.Ytphbdoljkpdflaa.P
open Go.RowKit Go.Maps Go.Proofs.YtphbdoljkpdflaaW.PrintWords Go.Proofs.YtphbdoljkpdflaaW.PrintLast Go.Proofs.YtphbdoljkpdflaaW.PrintMore
attribute [local go_sem] max2_int min2_int max_two min_two max_three min_three max_four min_four
set_option linter.unusedVariables false
set_option linter.unusedSimpArgs false
def simL : List (Int × Value):=[(1,.int .i64 1),(2,.int .i64 2),(3,.int .i64 3),(4,.int .i64 4),(5,.int .i64 5),(9,.int .i64 10),(10,.int .i64 11),(11,.int .i64 12)]
def BxAt (W : World) (b : Nat) (x : S46) (v4 v5 : Value) : Prop:=W.heap[b]? = some (.cells #[.int .i64 x.f0,.int .i64 x.f1,.int .i64 x.f2,.int .i64 x.f3,v4,v5] 46 (0,0))
theorem BxAt.cells {W : World} {b : Nat} {x : S46} {v4 v5 : Value} (h : BxAt W b x v4 v5) : W.cell? ⟨b,0,none⟩ = some (.int .i64 x.f0) ∧ W.cell? ⟨b,1,none⟩ = some (.int .i64 x.f1) ∧ W.cell? ⟨b,2,none⟩ = some (.int .i64 x.f2) ∧ W.cell? ⟨b,3,none⟩ = some (.int .i64 x.f3) ∧ W.cell? ⟨b,4,none⟩ = some v4 ∧ W.cell? ⟨b,5,none⟩ = some v5 :=
  ⟨cell_of h 0 rfl,cell_of h 1 rfl,cell_of h 2 rfl,cell_of h 3 rfl,cell_of h 4 rfl,cell_of h 5 rfl⟩
def ptB : List (Nat × Nat) → List S42 → Option (List S42)
  | [],c=>some c
  | q :: t,c=>if q.1 < c.length then ptB t (c.set q.1 ⟨(rd_T42 c (q.1 : Int)).f0,(rd_T42 c (q.1 : Int)).f1,(rd_T42 c (q.1 : Int)).f2,(q.2 : Int)⟩) else none
def impl_codeOf.f (k : Nat) (l : List S46) : Option (List S42):=(cmK k l ([],[])).bind fun s=>(emB s ⟨13,0,0,0⟩).bind fun s2=>ptB s2.2 s2.1
end Go.Proofs.Ytphbdoljkpdflaa.P
