/- Two slices that the call owns, apart from each other, and how each grows. -/
import Derived.Test.YtllblmoojohffaaAppend
namespace Go.Proofs.Ytllblmoojohffaa
open Go.RowKit

theorem info_two : (Try.prog.info? 2).map (fun i => (i.zero, i.size, i.bytes)) = some (some (.int .i64 0), 1, 8) := by kernel_rfl
theorem apart_or {a b : Option Nat} (h : a = none ∨ b = none ∨ a ≠ b) : b = none ∨ b ≠ a := by
  rcases h with h | h | h
  · subst h; cases b <;> simp
  · exact .inl h
  · exact .inr (Ne.symm h)
theorem apart_one {a b a' : Option Nat} {n : Nat} (h : a = none ∨ b = none ∨ a ≠ b) (ha : a' = a ∨ a' = some n) (hb : ∀ k, b = some k → k < n) : a' = none ∨ a' ≠ b := by
  rcases ha with rfl | rfl
  · rcases h with h | h | h
    · exact .inl h
    · subst h
      cases a' <;> simp
    · exact .inr h
  · refine .inr fun e => ?_
    have := hb n e.symm
    omega
theorem apart_two {a b a' b' : Option Nat} {n m s : Nat} (h : a = none ∨ b = none ∨ a ≠ b) (ha : a' = a ∨ a' = some n) (hb : b' = b ∨ b' = some m) (la : ∀ k, a = some k → k < s) (lb : ∀ k, b = some k → k < s) (h1 : s ≤ n) (h2 : n < m) :
    a' = none ∨ b' = none ∨ a' ≠ b' := by
  rcases ha with rfl | rfl <;> rcases hb with rfl | rfl
  · exact h
  · refine .inr (.inr fun e => ?_)
    have := la m e
    omega
  · refine .inr (.inr fun e => ?_)
    have := lb n e.symm
    omega
  · refine .inr (.inr fun e => ?_)
    cases e
    omega
/-- Two slices that the call owns, apart from each other. -/
def Two (w0 w : World) (a b : Value) (xs ys : List Int) : Prop :=
  w.ownsRow w0.heap.size 2 1 a xs.length (xs.map (Value.int .i64)) ∧ w.ownsRow w0.heap.size 2 1 b ys.length (ys.map (Value.int .i64)) ∧ (a.ownBlock = none ∨ b.ownBlock = none ∨ a.ownBlock ≠ b.ownBlock) ∧ Below w0.heap.size w0 w
end Go.Proofs.Ytllblmoojohffaa
