/- both.Debit, both.Credit: so much on a side. -/
import Derived.Test.YtbiiejolemcifaaPosV
namespace Go.Proofs.Ytbiiejolemcifaa
open Go.RowKit FlM
attribute [local go_sem] run_store_complex run_store_float

/-- So much on a side, as a word. -/
def sideW (v : Int) : Nat := if v < 0 ∨ 1000000000000000 < v then 0 else FlM.N v.toNat
set_option maxHeartbeats 400000 in
theorem side_any (v : Int) (s : Nat) (hs : Hid (sideW v = s)) (w : World) : Calls Try.prog 79 #[.int .i64 v] w (Ret (.float .f64 s) w) := by
  by_cases h0 : v < 0
  · obtain rfl : 0 = s := by rw [← hs.out]; unfold sideW; rw [if_pos (Or.inl h0)]
    clear hs
    go_enter Try.func79, Try.ntmps79
    go_wp2
    go_ret
    exact ⟨rfl, rfl⟩
  · by_cases h1 : 1000000000000000 < v
    · obtain rfl : 0 = s := by rw [← hs.out]; unfold sideW; rw [if_pos (Or.inr h1)]
      clear hs
      go_enter Try.func79, Try.ntmps79
      go_wp2
      go_ret
      exact ⟨rfl, rfl⟩
    · have e : floatOfInt .f64 v = s := by
        rw [← hs.out]
        unfold sideW
        rw [if_neg (by omega)]
        have := floatOf_N v.toNat
        rwa [Int.toNat_of_nonneg (by omega)] at this
      clear hs
      go_enter Try.func79, Try.ntmps79
      go_wp2
      go_ret
      first | exact ⟨rfl, rfl⟩ | (refine ⟨?_, rfl⟩; simp only [e]; rfl)
theorem debit_any (v : Int) (s : Nat) (hs : Hid (sideW v = s)) (w : World) : Calls Try.prog 62 #[.int .i64 v] w (Ret (.complex .f64 s 0) w) := by
  go_enter Try.func62, Try.ntmps62
  go_wp2_with fail
  refine (side_any v s hs _).mono ?_
  rintro _ w1 ⟨rfl, rfl⟩
  go_wp2
  go_ret
  exact ⟨rfl, rfl⟩
theorem credit_any (v : Int) (s : Nat) (hs : Hid (sideW v = s)) (w : World) : Calls Try.prog 63 #[.int .i64 v] w (Ret (.complex .f64 0 s) w) := by
  go_enter Try.func63, Try.ntmps63
  go_wp2_with fail
  refine (side_any v s hs _).mono ?_
  rintro _ w1 ⟨rfl, rfl⟩
  go_wp2
  go_ret
  exact ⟨rfl, rfl⟩
theorem sideW_N (n : Nat) (h : n ≤ 1000000000000000) : sideW (n : Int) = FlM.N n := by
  unfold sideW
  rw [if_neg (by omega), Int.toNat_natCast]
end Go.Proofs.Ytbiiejolemcifaa
