/- TermsBounds: each number at its bounds, and one beyond: whatever comes in. -/
import Derived.Test.YtofajlemknkndaaBoundsA
import Derived.Test.YtofajlemknkndaaBoundsB
namespace Go.Proofs.Ytofajlemknkndaa
open Go.RowKit

theorem termsBounds_any (which : Int) (up over : Bool) (w : World) : Calls Try.prog 3 #[.int .i64 which, .bool up, .bool over] w (RetB (.bool true) w) := by
  have h0 : 0 ≤ IntKind.u64.wrap which := by rw [u64_wrap]; omega
  have h : (IntKind.u64.wrap which).tmod 8 = 0 ∨ (IntKind.u64.wrap which).tmod 8 = 1 ∨ (IntKind.u64.wrap which).tmod 8 = 2 ∨ (IntKind.u64.wrap which).tmod 8 = 3 ∨ (IntKind.u64.wrap which).tmod 8 = 4 ∨ (IntKind.u64.wrap which).tmod 8 = 5 ∨ (IntKind.u64.wrap which).tmod 8 = 6 ∨ (IntKind.u64.wrap which).tmod 8 = 7 := by
    rw [Int.tmod_eq_emod_of_nonneg h0]
    omega
  clear h0
  rcases h with h | h | h | h | h | h | h | h <;> cases up <;> cases over
  · exact bounds_0_false_false which h w
  · exact bounds_0_false_true which h w
  · exact bounds_0_true_false which h w
  · exact bounds_0_true_true which h w
  · exact bounds_1_false_false which h w
  · exact bounds_1_false_true which h w
  · exact bounds_1_true_false which h w
  · exact bounds_1_true_true which h w
  · exact bounds_2_false_false which h w
  · exact bounds_2_false_true which h w
  · exact bounds_2_true_false which h w
  · exact bounds_2_true_true which h w
  · exact bounds_3_false_false which h w
  · exact bounds_3_false_true which h w
  · exact bounds_3_true_false which h w
  · exact bounds_3_true_true which h w
  · exact bounds_4_false_false which h w
  · exact bounds_4_false_true which h w
  · exact bounds_4_true_false which h w
  · exact bounds_4_true_true which h w
  · exact bounds_5_false_false which h w
  · exact bounds_5_false_true which h w
  · exact bounds_5_true_false which h w
  · exact bounds_5_true_true which h w
  · exact bounds_6_false_false which h w
  · exact bounds_6_false_true which h w
  · exact bounds_6_true_false which h w
  · exact bounds_6_true_true which h w
  · exact bounds_7_false_false which h w
  · exact bounds_7_false_true which h w
  · exact bounds_7_true_false which h w
  · exact bounds_7_true_true which h w
end Go.Proofs.Ytofajlemknkndaa
