/- lombardlaw09: what a program that does nothing does not answer; RankTells. -/
import Derived.Test.YtfikdnmbnbkchaaRankLow
import Derived.Test.YtfikdnmbnbkchaaRankHigh
import Derived.Test.YtfikdnmbnbkchaaRefRank
import Derived.Test.YtfikdnmbnbkchaaKept64
import Derived.Test.YtfikdnmbnbkchaaOwn64
import Derived.Test.YtfikdnmbnbkchaaSameI
namespace Go.Proofs.Ytfikdnmbnbkchaa
open Go.RowKit

theorem ltOf_false : ltOf false = ltLow := by funext x y; simp [ltOf, ltLow]
theorem ltOf_true : ltOf true = ltHigh := by funext x y; simp [ltOf, ltHigh]

set_option maxHeartbeats 400000 in
theorem awake09_any (w : World) : Calls Try.prog 12 #[] w (RetB (.bool true) w) := by
  go_enter Try.func12, Try.ntmps12
  go_wp2_with fail
  refine (low_any _ [5, 3, 5] _ (Sl.lit _ _ _ _ rfl _ rfl (by decide)) (by decide)).mono ?_
  rintro e w1 ⟨u1, rfl, hs1, hb1⟩
  have e1 : rankL ltLow [5, 3, 5] [(5 : Int), 3, 5].length = [2, 1, 3] := by decide
  rw [e1] at hs1
  clear e1
  go_wp2_with fail
  refine (plainI_any _ _ [2, 1, 3] [2, 1, 3] true (Lib.hid (by decide)) _ (hs1.alloc _) (Sl.lit _ _ _ _ rfl _ rfl (by decide))).mono ?_
  rintro e w2 ⟨rfl, hb2⟩
  go_wp2_with fail
  refine (high_any _ [5, 3, 5] _ (Sl.lit _ _ _ _ rfl _ rfl (by decide)) (by decide)).mono ?_
  rintro e w3 ⟨u3, rfl, hs3, hb3⟩
  have e1 : rankL ltHigh [5, 3, 5] [(5 : Int), 3, 5].length = [1, 3, 2] := by decide
  rw [e1] at hs3
  clear e1
  go_wp2_with fail
  refine (plainI_any _ _ [1, 3, 2] [1, 3, 2] true (Lib.hid (by decide)) _ (hs3.alloc _) (Sl.lit _ _ _ _ rfl _ rfl (by decide))).mono ?_
  rintro e w4 ⟨rfl, hb4⟩
  go_wp2_with fail
  go_ret
  exact ⟨rfl, (by repeat (first | exact Below.refl _ _ | refine bl_al ?_ _ | refine bl_dr ?_ | refine bl_dN ?_ _ | refine bl_tr ?_ (by assumption)))⟩

set_option maxHeartbeats 400000 in
theorem rankTells_any (v : Value) (xs : List Int) (w : World) (hv : Sl .i64 w v xs) : Calls Try.prog 3 #[v] w (RetB (.bool true) w) := by
  have HV := Lib.hid hv
  obtain ⟨ao, cap, rfl, h1, ⟨h2, _⟩, h3⟩ := hv
  clear h3
  unfold maxLen at h2
  by_cases hn : xs.length ≤ 200
  · have hd : ¬ ((200 : Int) < (xs.length : Int)) := by omega
    go_enter Try.func3, Try.ntmps3
    go_wp2_with fail
    refine (own64_any _ xs 71 _ HV.out (by omega)).mono ?_
    rintro e w1 ⟨u1, rfl, hs1, hb1⟩
    go_wp2_with fail
    refine (awake09_any _).mono ?_
    rintro e w2 ⟨rfl, hb2⟩
    go_wp2_with fail
    refine (low_any _ xs _ (hs1.below hb2).sl (by omega)).mono ?_
    rintro e w3 ⟨u3, rfl, hs3, hb3⟩
    go_wp2_with fail
    refine (refLow_any _ xs _ (HV.out.below (by repeat (first | exact Below.refl _ _ | refine bl_al ?_ _ | refine bl_dr ?_ | refine bl_dN ?_ _ | refine bl_tr ?_ (by assumption)))) (by omega)).mono ?_
    rintro e w4 ⟨u4, rfl, hs4, hb4⟩
    go_wp2_with fail
    refine (plainI_any _ _ _ _ true (Lib.hid (by rw [ltOf_false]; exact beq_self_eq_true _)) _ (hs3.below hb4) hs4).mono ?_
    rintro e w5 ⟨rfl, hb5⟩
    go_wp2_with fail
    refine (high_any _ xs _ (hs1.below (by repeat (first | exact Below.refl _ _ | refine bl_al ?_ _ | refine bl_dr ?_ | refine bl_dN ?_ _ | refine bl_tr ?_ (by assumption)))).sl (by omega)).mono ?_
    rintro e w6 ⟨u6, rfl, hs6, hb6⟩
    go_wp2_with fail
    refine (refHigh_any _ xs _ (HV.out.below (by repeat (first | exact Below.refl _ _ | refine bl_al ?_ _ | refine bl_dr ?_ | refine bl_dN ?_ _ | refine bl_tr ?_ (by assumption)))) (by omega)).mono ?_
    rintro e w7 ⟨u7, rfl, hs7, hb7⟩
    go_wp2_with fail
    refine (plainI_any _ _ _ _ true (Lib.hid (by rw [ltOf_true]; exact beq_self_eq_true _)) _ (hs6.below hb7) hs7).mono ?_
    rintro e w8 ⟨rfl, hb8⟩
    go_wp2_with fail
    refine (kept64_true _ _ xs 71 _ (hs1.below (by repeat (first | exact Below.refl _ _ | refine bl_al ?_ _ | refine bl_dr ?_ | refine bl_dN ?_ _ | refine bl_tr ?_ (by assumption)))) (HV.out.below (by repeat (first | exact Below.refl _ _ | refine bl_al ?_ _ | refine bl_dr ?_ | refine bl_dN ?_ _ | refine bl_tr ?_ (by assumption)))) (by omega)).mono ?_
    rintro e w9 ⟨rfl, hb9⟩
    go_wp2_with fail
    go_ret
    exact ⟨rfl, (by repeat (first | exact Below.refl _ _ | refine bl_al ?_ _ | refine bl_dr ?_ | refine bl_dN ?_ _ | refine bl_tr ?_ (by assumption)))⟩
  · have hd : (200 : Int) < (xs.length : Int) := by omega
    go_enter Try.func3, Try.ntmps3
    go_wp2_with fail
    refine (awake09_any _).mono ?_
    rintro e w2 ⟨rfl, hb2⟩
    go_wp2_with fail
    go_ret
    exact ⟨rfl, hb2⟩
end Go.Proofs.Ytfikdnmbnbkchaa
