/- The postings from one position to another one: plain numbers. -/
import Derived.Test.YtbiiejolemcifaaPosting
import Derived.Test.YtbiiejolemcifaaPoolR
namespace Go.Proofs.Ytbiiejolemcifaa
open Go.RowKit FlM

/-- The first k tranches' postings. -/
def trP (bs cs : List Int) : Nat → List (Int × Nat × Nat)
  | 0 => []
  | k + 1 => trP bs cs k ++ postL ((k : Int) + 1) (cs.getD k 0 - bs.getD k 0)
/-- What the tranches are more by, of the first k. -/
def trS (bs cs : List Int) : Nat → Int
  | 0 => 0
  | k + 1 => trS bs cs k + (cs.getD k 0 - bs.getD k 0)
/-- Debits, credits of the first k. -/
def trD (bs cs : List Int) : Nat → Nat
  | 0 => 0
  | k + 1 => trD bs cs k + (cs.getD k 0 - bs.getD k 0).toNat
def trC (bs cs : List Int) : Nat → Nat
  | 0 => 0
  | k + 1 => trC bs cs k + (-(cs.getD k 0 - bs.getD k 0)).toNat
/-- The postings from one position to another one. -/
def postS (bs : List Int) (c d : Int) (cs : List Int) (c2 d2 : Int) (other : Int) : List (Int × Nat × Nat) :=
  if (rightP bs c d && rightP cs c2 d2 && bs.length == cs.length) = false then [] else
  if 1000000000000000 < -(trS bs cs cs.length + (c - c2)) ∨ -(trS bs cs cs.length + (c - c2)) < -1000000000000000 then trP bs cs cs.length ++ postL (-1) (c - c2) else
  trP bs cs cs.length ++ postL (-1) (c - c2) ++ postL other (-(trS bs cs cs.length + (c - c2)))
theorem postL_len (a m : Int) : (postL a m).length ≤ 1 := by
  unfold postL
  split
  · simp
  · split <;> simp
theorem trP_len (bs cs : List Int) (k : Nat) : (trP bs cs k).length ≤ k := by
  induction k with
  | zero => simp [trP]
  | succ k ih =>
    have := postL_len ((k : Int) + 1) (cs.getD k 0 - bs.getD k 0)
    simp only [trP, List.length_append]
    omega
theorem rightP_len {bs : List Int} {c d : Int} (h : rightP bs c d = true) : 1 ≤ bs.length ∧ bs.length ≤ 8 := by
  unfold rightP at h
  cases hs : sumsB 0 bs with
  | none => rw [hs] at h; exact absurd h (by simp)
  | some s =>
    rw [hs] at h
    simp only [Bool.and_eq_true, decide_eq_true_eq] at h
    exact h.1.1.1
/-- A tranche's change is within the bound. -/
theorem tr_one {bs cs : List Int} {c d c2 d2 : Int} (h1 : rightP bs c d = true) (h2 : rightP cs c2 d2 = true) (hl : bs.length = cs.length) {k : Nat} (hk : k < cs.length) : -1000000000000000 ≤ cs.getD k 0 - bs.getD k 0 ∧ cs.getD k 0 - bs.getD k 0 ≤ 1000000000000000 := by
  have a := (rightP_may h1).2 k (by omega)
  have b := (rightP_may h2).2 k hk
  omega
theorem tr_bd {bs cs : List Int} {c d c2 d2 : Int} (h1 : rightP bs c d = true) (h2 : rightP cs c2 d2 = true) (hl : bs.length = cs.length) (k : Nat) (hk : k ≤ cs.length) :
    trD bs cs k ≤ k * 1000000000000000 ∧ trC bs cs k ≤ k * 1000000000000000 ∧ trS bs cs k = (trD bs cs k : Int) - (trC bs cs k : Int) := by
  induction k with
  | zero => simp [trD, trC, trS]
  | succ k ih =>
    obtain ⟨i1, i2, i3⟩ := ih (by omega)
    have := tr_one h1 h2 hl (k := k) (by omega)
    simp only [trD, trC, trS]
    generalize cs.getD k 0 - bs.getD k 0 = m at *
    omega
theorem sumsB_bd {all : Int} {l : List Int} {s : Int} (h : sumsB all l = some s) (ha : all ≤ 1000000000000000) : s = all + l.sum ∧ s ≤ 1000000000000000 := by
  induction l generalizing all with
  | nil =>
    simp only [sumsB, Option.some.injEq] at h
    subst h
    simpa using ha
  | cons v l ih =>
    unfold sumsB at h
    by_cases hc : may0 v = true ∧ may0 (all + v) = true
    · rw [if_pos hc] at h
      have := ih h (may0_iff.1 hc.2).2
      simp only [List.sum_cons]
      omega
    · rw [if_neg hc] at h; exact absurd h (by simp)
theorem rightP_sum {bs : List Int} {c d : Int} (h : rightP bs c d = true) : bs.sum ≤ 1000000000000000 := by
  unfold rightP at h
  cases hs : sumsB 0 bs with
  | none => rw [hs] at h; exact absurd h (by simp)
  | some s =>
    have := sumsB_bd hs (by omega)
    omega
theorem take_sum_le {l : List Int} (h : ∀ i, i < l.length → 0 ≤ l.getD i 0) (k : Nat) : (l.take k).sum ≤ l.sum := by
  induction l generalizing k with
  | nil => simp
  | cons x l ih =>
    have h0 := h 0 (by simp)
    have ht : ∀ i, i < l.length → 0 ≤ l.getD i 0 := fun i hi => by simpa using h (i + 1) (by simpa using hi)
    cases k with
    | zero =>
      have := ih ht 0
      simp at this h0 ⊢
      omega
    | succ k =>
      have := ih ht k
      simp only [List.take_succ_cons, List.sum_cons]
      omega
theorem take_sum_succ (l : List Int) (k : Nat) (h : k < l.length) : (l.take (k + 1)).sum = (l.take k).sum + l.getD k 0 := by
  rw [List.take_succ_eq_append_getElem h, List.sum_append]
  simp [List.getD, h]
theorem tr_tight {bs cs : List Int} {c d c2 d2 : Int} (h1 : rightP bs c d = true) (h2 : rightP cs c2 d2 = true) (hl : bs.length = cs.length) (k : Nat) (hk : k ≤ cs.length) :
    (trD bs cs k : Int) ≤ 1000000000000000 ∧ (trC bs cs k : Int) ≤ 1000000000000000 := by
  have key : ∀ k, k ≤ cs.length → (trD bs cs k : Int) ≤ (cs.take k).sum ∧ (trC bs cs k : Int) ≤ (bs.take k).sum := by
    intro k
    induction k with
    | zero => intro _; simp [trD, trC]
    | succ k ih =>
      intro hk
      obtain ⟨i1, i2⟩ := ih (by omega)
      have a := (rightP_may h1).2 k (by omega)
      have b := (rightP_may h2).2 k (by omega)
      rw [take_sum_succ _ _ (by omega), take_sum_succ _ _ (by omega)]
      simp only [trD, trC]
      omega
  obtain ⟨i1, i2⟩ := key k hk
  have a := take_sum_le (fun i hi => ((rightP_may h1).2 i hi).1) k
  have b := take_sum_le (fun i hi => ((rightP_may h2).2 i hi).1) k
  have e := rightP_sum h1
  have f := rightP_sum h2
  omega
end Go.Proofs.Ytbiiejolemcifaa
