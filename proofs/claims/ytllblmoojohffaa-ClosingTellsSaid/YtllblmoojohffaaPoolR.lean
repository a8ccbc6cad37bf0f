/- A position answered; what a position that may be has. -/
import Derived.Test.YtllblmoojohffaaPoolD
namespace Go.Proofs.Ytllblmoojohffaa
open Go.RowKit

/-- The answer is this position, and whether it is one: balances, credit, what is due, the reason. -/
def RetPos (s : List Int × Int × Int × Int) (w : World) (e : Ending) (w' : World) : Prop :=
  ∃ u, e = .returned (.tuple #[.agg #[u, .int .i64 s.2.1, .int .i64 s.2.2.1], .int .i64 s.2.2.2]) ∧ Sl .i64 w' u s.1 ∧ Below w.heap.size w w'
theorem Sl.nil {w : World} : Sl .i64 w (.slice none 0 0) [] := ⟨none, 0, rfl, Nat.le_refl _, ⟨by simp [maxLen], fun _ => rfl⟩, fun h => absurd rfl h⟩
theorem sumsB_may {all : Int} {bs : List Int} {s : Int} (h : sumsB all bs = some s) (i : Nat) (hi : i < bs.length) : 0 ≤ bs.getD i 0 ∧ bs.getD i 0 ≤ 1000000000000000 := by
  induction bs generalizing all i with
  | nil => simp at hi
  | cons v l ih =>
    unfold sumsB at h
    by_cases hc : may0 v = true ∧ may0 (all + v) = true
    · rw [if_pos hc] at h
      cases i with
      | zero => simpa using may0_iff.1 hc.1
      | succ j => simpa using ih h j (by simpa using hi)
    · rw [if_neg hc] at h; exact absurd h (by simp)
theorem rightP_may {bs : List Int} {c d : Int} (h : rightP bs c d = true) : (0 ≤ c ∧ c ≤ 1000000000000000) ∧ ∀ i, i < bs.length → 0 ≤ bs.getD i 0 ∧ bs.getD i 0 ≤ 1000000000000000 := by
  unfold rightP at h
  cases hs : sumsB 0 bs with
  | none => rw [hs] at h; exact absurd h (by simp)
  | some s =>
    rw [hs] at h
    simp only [Bool.and_eq_true] at h
    exact ⟨may0_iff.1 h.1.1.2, fun i hi => sumsB_may hs i hi⟩
theorem Sl.shape {k : IntKind} {w : World} {v : Value} {xs : List Int} (h : Sl k w v xs) : ∃ ao cap, v = .slice ao xs.length cap := by
  obtain ⟨ao, cap, rfl, _⟩ := h; exact ⟨ao, cap, rfl⟩
/-- A slice with an element lies in new memory. -/
def Fr (w : World) (v : Value) : Prop := ∀ b o n c, v = .slice (some ⟨b, o, none⟩) n c → 0 < n → w.heap.size ≤ b
theorem fr_of {w : World} {ao : Option Addr} {n c g : Nat} (h : 0 < n → ao = some ⟨g, 0, none⟩ ∧ w.heap.size ≤ g) : Fr w (.slice ao n c) := by
  intro b o m d e hm
  injection e with e1 e2 e3
  subst e2
  obtain ⟨h1, h2⟩ := h hm
  rw [h1] at e1
  cases e1
  exact h2
theorem fr_nil {w : World} : Fr w (.slice none 0 0) := fun _ _ _ _ h => by cases h
/-- A position, or none, whose balances lie in new memory. -/
def RetPosN (s : List Int × Int × Int × Int) (w : World) (e : Ending) (w' : World) : Prop :=
  ∃ u, e = .returned (.tuple #[.agg #[u, .int .i64 s.2.1, .int .i64 s.2.2.1], .int .i64 s.2.2.2]) ∧ (Sl .i64 w' u s.1 ∧ Fr w u) ∧ Below w.heap.size w w'
/-- Numbers that read somewhere read the same when a cell of another block is written. -/
theorem Sl.setCell {k : IntKind} {w : World} {v : Value} {xs : List Int} {g i : Nat} (h : Sl k w v xs) (hne : ∀ b o n c, v = .slice (some ⟨b, o, none⟩) n c → 0 < n → b ≠ g) (x : Value) : Sl k (w.setCell ⟨g, i, none⟩ x) v xs := by
  obtain ⟨ao, cap, rfl, h1, h2, h3⟩ := h
  refine ⟨ao, cap, rfl, h1, h2, fun hx => ?_⟩
  obtain ⟨b, o, rfl, hc⟩ := h3 hx
  have hb := hne b o _ _ rfl (List.length_pos_iff.2 hx)
  refine ⟨b, o, rfl, fun j hj => ?_⟩
  rw [← hc j hj]
  have e := heap_setCell_other w ⟨g, i, none⟩ b x (fun e => hb e)
  unfold World.cell?
  simp only [e]
end Go.Proofs.Ytllblmoojohffaa
