/- lombardlaw09.RankEach at whatever rates, rising or falling. -/
import Derived.Test.YtfikdnmbnbkchaaRankEachLow
import Derived.Test.YtfikdnmbnbkchaaRankEachHigh
namespace Go.Proofs.Ytfikdnmbnbkchaa
open Go.RowKit
set_option maxRecDepth 100000 in
theorem rankEach_any (v : Value) (xs : List Int) (high : Bool) (w : World) (hv : Sl .i64 w v xs) : Calls Try.prog 4 #[v, .bool high] w (RetB (.bool true) w) := by
  by_cases hn : xs.length ≤ 100
  · cases high
    · exact rankEachLow_any v xs w hv hn
    · exact rankEachHigh_any v xs w hv hn
  · obtain ⟨ao, cap, rfl, h1, ⟨h2, _⟩, h3⟩ := hv
    clear h3
    unfold maxLen at h2
    have hd : (100 : Int) < (xs.length : Int) := by omega
    go_enter Try.func4, Try.ntmps4
    go_wp2_with fail
    refine (awake09_any _).mono ?_
    rintro e w2 ⟨rfl, hb2⟩
    go_wp2_with fail
    go_ret
    exact ⟨rfl, hb2⟩
end Go.Proofs.Ytfikdnmbnbkchaa
