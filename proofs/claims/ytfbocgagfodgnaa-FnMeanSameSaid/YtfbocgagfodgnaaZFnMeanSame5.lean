/- Loops with a counter, as plain lemmas: what a loop over i < n comes to; no condition. -/
import Derived.Test.YtfbocgagfodgnaaZFnMeanSame2
import Derived.Test.YtfbocgagfodgnaaZFnMeanSame0
import Derived.Laws.BitsAllLaws
import Derived.IntWalk
namespace Go.Proofs.Ytfbocgagfodgnaa.P
open Go.RowKit Go.Proofs.YtfbocgagfodgnaaW.PrintWords Go.Proofs.YtfbocgagfodgnaaW.PrintMore
theorem wrap_id {n : Int} (h1 : -9223372036854775808 ≤ n) (h2 : n ≤ 9223372036854775807) : wrap64 n = n:=by unfold wrap64;omega
namespace Evs
variable {α β : Type}
theorem ite_pos {c : Prop} [Decidable c] {a b : Nat → Option α} {r : α} (hc : c) (h : Ev a r) : Ev (fun k=>if c then a k else b k) r:=by
 refine Ev.congr (fun k=>?_) h
 rw [if_pos hc]
theorem ite_neg {c : Prop} [Decidable c] {a b : Nat → Option α} {r : α} (hc : ¬ c) (h : Ev b r) : Ev (fun k=>if c then a k else b k) r:=by
 refine Ev.congr (fun k=>?_) h
 rw [if_neg hc]
theorem some_ (r : α) : Ev (fun _=>some r) r:=Ev.now r
theorem bind0 {a : Option β} {b : β} {f : Nat → β → Option α} {r : α} (h : a = some b) (k : Ev (fun n=>f n b) r) : Ev (fun n=>a.bind (f n)) r:=by
 subst h
 exact k
theorem bind {g : Nat → Option β} {f : Nat → β → Option α} {b : β} {r : α} (h : Ev g b) (k : Ev (fun n=>f n b) r) : Ev (fun n=>(g n).bind (f n)) r:=Ev.bind h k
theorem succ {g f : Nat → Option α} {r : α} (h : ∀ k,g (k + 1) = f k) (k : Ev f r) : Ev g r:=Ev.step h k
end Evs
theorem xor_range {a b : Int} (ha0 : 0 ≤ a) (ha : a < 9223372036854775808) (hb0 : 0 ≤ b) (hb : b < 9223372036854775808) : 0 ≤ Go.bits .xor .i64 a b:=by
 obtain ⟨x,rfl⟩:=Int.eq_ofNat_of_zero_le ha0
 obtain ⟨y,rfl⟩:=Int.eq_ofNat_of_zero_le hb0
 have hx : x < 2 ^ 63:=by omega
 have hy : y < 2 ^ 63:=by omega
 have hxy : x ^^^ y < 2 ^ 63:=Nat.xor_lt_two_pow hx hy
 have e : Go.bits .xor .i64 (x : Int) (y : Int) = ((x ^^^ y : Nat) : Int):=by
  show IntKind.i64.wrap ((BitVec.ofInt 64 (x : Int) ^^^ BitVec.ofInt 64 (y : Int)).toNat : Int) = _
  rw [BitVec.toNat_xor,ofInt_u64 x (by omega),ofInt_u64 y (by omega),IntKind.wrap_i64]
  omega
 rw [e]
 omega
theorem rd_all {p : Int → Prop} {xs : List Int} (h : ∀ x ∈ xs,p x) {i : Int} (h0 : 0 ≤ i) (h1 : i < (xs.length : Int)) : p (rd xs i):=by
 unfold rd
 have hi : i.toNat < xs.length:=by omega
 rw [List.getD_eq_getElem?_getD,List.getElem?_eq_getElem hi]
 exact h _ (List.getElem_mem hi)
def Buf (xs : List Int) : Prop:=xs.length ≤ 2000 ∧ ∀ x ∈ xs,0 ≤ x ∧ x ≤ 255
theorem buf_of_wf {xs : List Int} (hl : xs.length ≤ 2000) (h : ∀ x ∈ xs,(Lit.int .u8 x).wf = true) : Buf xs:=by
 refine ⟨hl,fun x hx=>?_⟩
 have:=h x hx
 simpa [Lit.wf,IntKind.min,IntKind.max,IntKind.signed,IntKind.bits] using this
theorem take_buf {xs : List Int} (h : ∀ x ∈ xs,(Lit.int .u8 x).wf = true) : Buf (xs.take 2000) :=
 buf_of_wf (by rw [List.length_take];omega) (fun x hx=>h x (List.mem_of_mem_take hx))
end Go.Proofs.Ytfbocgagfodgnaa.P
namespace Go.Proofs.Ytfbocgagfodgnaa.P
open Go.RowKit Go.Proofs.YtfbocgagfodgnaaW.PrintWords Go.Proofs.YtfbocgagfodgnaaW.PrintMore
theorem wrap_succ {i : Nat} (h : i < 9223372036854775807) : wrap64 ((i : Int) + 1) = ((i + 1 : Nat) : Int):=by
 rw [wrap_id (by omega) (by omega)]
 rfl
theorem all_loop (g : Nat → Int → Option Bool) (n : Nat) (q : Nat → Bool)
  (hgo : ∀ i r,i < n → q i = true → Ev (fun k=>g k ((i + 1 : Nat) : Int)) r → Ev (fun k=>g k (i : Int)) r)
  (hno : ∀ i,i < n → q i = false → Ev (fun k=>g k (i : Int)) false) (hstop : Ev (fun k=>g k (n : Int)) true) : Ev (fun k=>g k 0) ((List.range n).all q):=by
 have key : ∀ d i,i + d = n → Ev (fun k=>g k (i : Int)) ((List.range' i d).all q):=by
  intro d
  induction d with
  | zero =>
   intro i hi
   obtain rfl : i = n:=by omega
   exact hstop
  | succ d ih =>
   intro i hi
   rw [List.range'_succ,List.all_cons]
   by_cases h : q i = true
   ·rw [h,Bool.true_and]
    exact hgo i _ (by omega) h (ih (i + 1) (by omega))
   ·rw [Bool.eq_false_iff.2 h,Bool.false_and]
    exact hno i (by omega) (Bool.eq_false_iff.2 h)
 rw [List.range_eq_range']
 exact key n 0 (by omega)
end Go.Proofs.Ytfbocgagfodgnaa.P
