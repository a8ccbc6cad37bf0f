/- lombardhelp.In at int: whether a number is among some. -/
import Derived.Test.YtbiiejolemcifaaLib
import Derived.Deep.QuietTactic
import Derived.BigQuiet
namespace Go.Proofs.Ytbiiejolemcifaa
open Go.RowKit

theorem any_false_ofI {xs : List Int} {x : Int} (h : ∀ j, j < xs.length → (xs.getD j 0 == x) = false) : xs.contains x = false := by
  rw [List.contains_eq_any_beq, List.any_eq_false]
  intro y hy
  obtain ⟨j, hj, rfl⟩ := List.getElem_of_mem hy
  have := h j hj
  simp [List.getD, hj] at this
  simp
  omega

theorem any_true_ofI {xs : List Int} {x : Int} {k : Nat} (hk : k < xs.length) (h : (xs[k] == x) = true) : xs.contains x = true := by
  simp at h
  subst h
  simp

set_option maxHeartbeats 400000 in
theorem inI_any (v : Value) (xs : List Int) (x : Int) (r : Bool) (hr : Hid (xs.contains x = r)) (w : World) (hv : Sl .i64 w v xs) :
    Calls Try.prog 74 #[v, .int .i64 x] w (Ret (.bool r) w) := by
  obtain ⟨ao, cap, rfl, h1, h2, h3⟩ := hv
  obtain ⟨h2, _⟩ := h2
  unfold maxLen at h2
  have H3 := Lib.hid h3; clear h3
  go_enter Try.func74, Try.ntmps74
  go_wp2
  go_loop [5] (fun i => ∃ k : Nat, k ≤ xs.length ∧ i = .int .i64 k ∧ Hid (∀ j, j < k → (xs.getD j 0 == x) = false)) (fun i => xs.length - (intOf i).toNat)
  case atStart => exact ⟨0, Nat.zero_le _, rfl, fun j hj => absurd hj (by omega)⟩
  case round =>
    obtain ⟨k, hk, rfl, HN⟩ := hrel
    by_cases hlt : k < xs.length
    · obtain ⟨b, o, rfl, hc⟩ := H3.out (by intro h; rw [h] at hlt; simp at hlt)
      have hcell := hc k hlt
      clear hc H3
      go_wp2
      · go_ret
        have h : (xs[k] == x) = true := by assumption
        have e : r = true := by rw [← hr.out]; exact any_true_ofI hlt h
        subst e
        exact Ret.mk _ _
      · have h : (xs[k] == x) = false := by assumption
        go_round
        case rel => exact ⟨k + 1, hlt, by go_num, fun j hj => by
          rcases Nat.lt_succ_iff_lt_or_eq.1 hj with h' | rfl
          · exact HN.out j h'
          · simpa [List.getD, hlt] using h⟩
        case measure => simp [intOf]; omega
    · have e : r = false := by rw [← hr.out]; exact any_false_ofI fun j hj => HN.out j (by omega)
      subst e
      go_wp2
      go_ret
      exact Ret.mk _ _

end Go.Proofs.Ytbiiejolemcifaa
