/- lombardhelp.Kept at int64: a copy, and the room behind it, is as it was. -/
import Derived.Test.YtbiiejolemcifaaSame64
namespace Go.Proofs.Ytbiiejolemcifaa
open Go.RowKit

set_option maxHeartbeats 400000 in
theorem kept64_true (v u : Value) (xs : List Int) (x : Int) (w : World) (hv : Sp .i64 w v xs [x, x, x]) (hu : Sl .i64 w u xs) (hn : xs.length ≤ 1000) :
    Calls Try.prog 29 #[v, u, .int .i64 x] w (RetB (.bool true) w) := by
  obtain ⟨ao, rfl, hs, hf⟩ := hv
  have HS := Lib.hid hs
  have HF := Lib.hid hf
  have HU := Lib.hid hu
  clear hs hf
  obtain ⟨ao', cap', rfl, h1', _, _⟩ := hu
  have hcapb : decide ((xs.length + [x, x, x].length : Nat) < (xs.length : Int) + 3) = false := by simp
  go_enter Try.func29, Try.ntmps29
  go_wp2_with (go_at_call 56; refine (plain64_any _ _ xs xs true (Lib.hid (by simp)) _ HS.out HU.out).mono ?_; rintro e w1 ⟨rfl, hb⟩)
  go_loop [8] (fun i => ∃ k : Nat, xs.length ≤ k ∧ k ≤ xs.length + 3 ∧ i = .int .i64 k) (fun i => xs.length + 3 - (intOf i).toNat)
  case atStart => exact ⟨xs.length, Nat.le_refl _, by omega, rfl⟩
  case round =>
    obtain ⟨k, hk0, hk, rfl⟩ := hrel
    by_cases hlt : k < xs.length + 3
    · obtain ⟨b, o, rfl, hcell⟩ := (HF.out.below hb).at (i := k) (by simpa using hlt)
      have e : (xs ++ [x, x, x]).getD k 0 = x := by
        have h3 : k - xs.length = 0 ∨ k - xs.length = 1 ∨ k - xs.length = 2 := by omega
        rw [List.getD_eq_getElem?_getD, List.getElem?_append_right hk0]
        rcases h3 with h | h | h <;> rw [h] <;> rfl
      rw [e] at hcell
      clear e
      have hne : (x != x) = false := by simp
      go_wp2
      go_round
      case rel => exact ⟨k + 1, by omega, by omega, by go_num⟩
      case measure => simp [intOf]; omega
    · obtain rfl : xs.length + 3 = k := by omega
      go_wp2
      go_ret
      exact ⟨rfl, hb⟩
end Go.Proofs.Ytbiiejolemcifaa
