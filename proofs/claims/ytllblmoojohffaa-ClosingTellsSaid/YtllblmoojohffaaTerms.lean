/- Terms of an account, in plain data; a slice of tranches in memory; terms.Right. -/
import Derived.Test.YtllblmoojohffaaLib
import Derived.Deep.QuietTactic
namespace Go.Proofs.Ytllblmoojohffaa
open Go.RowKit

/-- The value v is a slice that reads in w as these tranches: a rate and whether there is grace. -/
def TrS (w : World) (v : Value) (ts : List (Int × Bool)) : Prop :=
  ∃ ao cap, v = .slice ao ts.length cap ∧ ts.length ≤ cap ∧ (cap ≤ maxLen ∧ (ao = none → cap = 0)) ∧
    (ts ≠ [] → ∃ b o, ao = some ⟨b, o, none⟩ ∧ ∀ i, i < ts.length → w.cell? ⟨b, o + i * 2, none⟩ = some (.int .i64 (ts.getD i (0, false)).1) ∧ w.cell? ⟨b, o + i * 2 + 1, none⟩ = some (.bool (ts.getD i (0, false)).2))
theorem TrS.below {w w' : World} {v : Value} {ts : List (Int × Bool)} (h : TrS w v ts) (hb : Below w.heap.size w w') : TrS w' v ts := by
  obtain ⟨ao, cap, rfl, h1, h2, h3⟩ := h
  refine ⟨ao, cap, rfl, h1, h2, fun hx => ?_⟩
  obtain ⟨b, o, rfl, hc⟩ := h3 hx
  exact ⟨b, o, rfl, fun i hi => ⟨(hb.cell (p := ⟨b, o + i * 2, none⟩) (cell_block_lt (hc i hi).1)).trans (hc i hi).1, (hb.cell (p := ⟨b, o + i * 2 + 1, none⟩) (cell_block_lt (hc i hi).2)).trans (hc i hi).2⟩⟩
theorem TrS.get {w : World} {ao : Option Addr} {n cap : Nat} {ts : List (Int × Bool)} (h : TrS w (.slice ao n cap) ts) {i : Nat} (hi : i < ts.length) :
    ∃ b o x g, ao = some ⟨b, o, none⟩ ∧ w.cell? ⟨b, o + i * 2, none⟩ = some (.int .i64 x) ∧ w.cell? ⟨b, o + i * 2 + 1, none⟩ = some (.bool g) ∧ Hid (ts.getD i (0, false) = (x, g)) := by
  obtain ⟨ao', cap', e, h1, h2, h3⟩ := h
  cases e
  obtain ⟨b, o, rfl, hc⟩ := h3 (by intro h; rw [h] at hi; simp at hi)
  exact ⟨b, o, _, _, rfl, (hc i hi).1, (hc i hi).2, rfl⟩
theorem TrS.len {w : World} {ao : Option Addr} {n cap : Nat} {ts : List (Int × Bool)} (h : TrS w (.slice ao n cap) ts) : n = ts.length ∧ n ≤ cap ∧ cap ≤ maxLen := by
  obtain ⟨ao', cap', e, h1, h2, h3⟩ := h
  cases e
  exact ⟨rfl, h1, h2.1⟩

/-- Is a number one of those? -/
def betw (v a b : Int) : Bool := decide (a ≤ v) && decide (v ≤ b)
theorem between_any (v a b : Int) (w : World) : Calls Try.prog 61 #[.int .i64 v, .int .i64 a, .int .i64 b] w (Ret (.bool (betw v a b)) w) := by
  go_enter Try.func61, Try.ntmps61
  by_cases h1 : a ≤ v
  · by_cases h2 : v ≤ b
    · go_wp2
      go_ret
      simp [Ret, betw, h1, h2]
    · go_wp2
      go_ret
      simp [Ret, betw, h1, h2]
  · go_wp2
    go_ret
    simp [Ret, betw]
    omega
theorem between_is {v a b : Int} {r : Bool} (h : betw v a b = r) (w : World) : Calls Try.prog 61 #[.int .i64 v, .int .i64 a, .int .i64 b] w (Ret (.bool r) w) := by rw [← h]; exact between_any v a b w
end Go.Proofs.Ytllblmoojohffaa
