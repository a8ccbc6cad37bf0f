/- lombardlaw10: what a program that does nothing does not answer; FallInto; FallOrder. -/
import Derived.Test.YtfikdnmbnbkchaaRefFall
import Derived.Test.YtfikdnmbnbkchaaKept64
import Derived.Test.YtfikdnmbnbkchaaOwn64
import Derived.Test.YtfikdnmbnbkchaaKeptI
import Derived.Test.YtfikdnmbnbkchaaOwnI
namespace Go.Proofs.Ytfikdnmbnbkchaa
open Go.RowKit

set_option maxHeartbeats 400000 in
theorem awake10_any (w : World) : Calls Try.prog 22 #[] w (RetB (.bool true) w) := by
  go_enter Try.func22, Try.ntmps22
  go_wp2_with fail
  refine (fallInto_any _ _ [5, 7] [2, 1] 9 _ ((Sl.litAt w _ [5, 7] 2 _ rfl _ rfl (by decide) rfl).alloc _) (Sl.litAt _ _ [2, 1] 2 _ rfl _ rfl (by decide) (by simp)) (by decide) (by decide)).mono ?_
  rintro e w1 ⟨u1, rfl, ho1, hb1⟩
  have hs1 := Sl.of_own ho1 rfl
  clear ho1
  have e1 : intoR [5, 7] [2, 1] 9 = ([2, 7], 0, 0) := by decide
  rw [e1] at hs1 ⊢
  clear e1
  go_wp2_with fail
  refine (plain64_any _ _ [2, 7] [2, 7] true (Lib.hid (by decide)) _ (hs1.alloc _) (Sl.lit _ _ _ _ rfl _ rfl (by decide))).mono ?_
  rintro e w2 ⟨rfl, hb2⟩
  go_wp2_with fail
  go_ret
  exact ⟨rfl, (by repeat (first | exact Below.refl _ _ | refine bl_al ?_ _ | refine bl_dr ?_ | refine bl_dN ?_ _ | refine bl_tr ?_ (by assumption)))⟩

set_option maxRecDepth 100000 in
set_option maxHeartbeats 400000 in
theorem fallIntoLaw_any (v u : Value) (bal ks : List Int) (amount : Int) (w : World) (hv : Sl .i64 w v bal) (hu : Sl .i64 w u ks) :
    Calls Try.prog 6 #[v, u, .int .i64 amount] w (RetB (.bool true) w) := by
  have HV := Lib.hid hv
  have HU := Lib.hid hu
  obtain ⟨ao, cap, rfl, h1, ⟨h2, _⟩, h3⟩ := hv
  obtain ⟨ao', cap', rfl, h1', ⟨h2', _⟩, h3'⟩ := hu
  clear h3 h3'
  unfold maxLen at h2 h2'
  by_cases hn : bal.length ≤ 50
  · by_cases hk : ks.length ≤ 50
    · have d1 : decide ((50 : Int) < (bal.length : Int)) = false := by simp; omega
      have d2 : decide ((50 : Int) < (ks.length : Int)) = false := by simp; omega
      go_enter Try.func6, Try.ntmps6
      go_wp2_with fail
      refine (own64_any _ bal 71 _ HV.out (by omega)).mono ?_
      rintro e w1 ⟨u1, rfl, hs1, hb1⟩
      go_wp2_with fail
      refine (ownI_any _ ks 71 _ (HU.out.below (by repeat (first | exact Below.refl _ _ | refine bl_al ?_ _ | refine bl_dr ?_ | refine bl_dN ?_ _ | refine bl_tr ?_ (by assumption)))) (by omega)).mono ?_
      rintro e w2 ⟨u2, rfl, hs2, hb2⟩
      go_wp2_with fail
      refine (fallInto_any _ _ bal ks amount _ (hs1.below (by repeat (first | exact Below.refl _ _ | refine bl_al ?_ _ | refine bl_dr ?_ | refine bl_dN ?_ _ | refine bl_tr ?_ (by assumption)))).sl hs2.sl (by omega) (by omega)).mono ?_
      rintro e w3 ⟨u3, rfl, ho3, hb3⟩
      have hs3 := Sl.of_own ho3 rfl
      clear ho3
      go_wp2_with fail
      refine (refInto_any _ _ bal ks amount _ (Lib.hid rfl) _ (HV.out.below (by repeat (first | exact Below.refl _ _ | refine bl_al ?_ _ | refine bl_dr ?_ | refine bl_dN ?_ _ | refine bl_tr ?_ (by assumption)))) (HU.out.below (by repeat (first | exact Below.refl _ _ | refine bl_al ?_ _ | refine bl_dr ?_ | refine bl_dN ?_ _ | refine bl_tr ?_ (by assumption)))) (by omega) (by omega)).mono ?_
      rintro e w4 ⟨u4, rfl, ho4, hb4⟩
      have hs4 := Sl.of_own ho4 rfl
      clear ho4
      generalize intoR bal ks amount = R at hs3 hs4 ⊢
      obtain ⟨L, A, E⟩ := R
      simp only at hs3 hs4 ⊢
      go_wp2_with fail
      refine (awake10_any _).mono ?_
      rintro e w5 ⟨rfl, hb5⟩
      go_wp2_with fail
      refine (plain64_any _ _ L L true (Lib.hid (beq_self_eq_true _)) _ (hs3.below (by repeat (first | exact Below.refl _ _ | refine bl_al ?_ _ | refine bl_dr ?_ | refine bl_dN ?_ _ | refine bl_tr ?_ (by assumption)))) (hs4.below (by repeat (first | exact Below.refl _ _ | refine bl_al ?_ _ | refine bl_dr ?_ | refine bl_dN ?_ _ | refine bl_tr ?_ (by assumption))))).mono ?_
      rintro e w6 ⟨rfl, hb6⟩
      have q1 : (A == A) = true := beq_self_eq_true _
      have q2 : (E == E) = true := beq_self_eq_true _
      go_wp2_with fail
      refine (kept64_true _ _ bal 71 _ (hs1.below (by repeat (first | exact Below.refl _ _ | refine bl_al ?_ _ | refine bl_dr ?_ | refine bl_dN ?_ _ | refine bl_tr ?_ (by assumption)))) (HV.out.below (by repeat (first | exact Below.refl _ _ | refine bl_al ?_ _ | refine bl_dr ?_ | refine bl_dN ?_ _ | refine bl_tr ?_ (by assumption)))) (by omega)).mono ?_
      rintro e w7 ⟨rfl, hb7⟩
      go_wp2_with fail
      refine (keptI_true _ _ ks 71 _ (hs2.below (by repeat (first | exact Below.refl _ _ | refine bl_al ?_ _ | refine bl_dr ?_ | refine bl_dN ?_ _ | refine bl_tr ?_ (by assumption)))) (HU.out.below (by repeat (first | exact Below.refl _ _ | refine bl_al ?_ _ | refine bl_dr ?_ | refine bl_dN ?_ _ | refine bl_tr ?_ (by assumption)))) (by omega)).mono ?_
      rintro e w8 ⟨rfl, hb8⟩
      go_wp2_with fail
      go_ret
      exact ⟨rfl, (by repeat (first | exact Below.refl _ _ | refine bl_al ?_ _ | refine bl_dr ?_ | refine bl_dN ?_ _ | refine bl_tr ?_ (by assumption)))⟩
    · have d1 : decide ((50 : Int) < (bal.length : Int)) = false := by simp; omega
      have d2 : decide ((50 : Int) < (ks.length : Int)) = true := by simp; omega
      go_enter Try.func6, Try.ntmps6
      go_wp2_with fail
      refine (awake10_any _).mono ?_
      rintro e w5 ⟨rfl, hb5⟩
      go_wp2_with fail
      go_ret
      exact ⟨rfl, hb5⟩
  · have d1 : decide ((50 : Int) < (bal.length : Int)) = true := by simp; omega
    go_enter Try.func6, Try.ntmps6
    go_wp2_with fail
    refine (awake10_any _).mono ?_
    rintro e w5 ⟨rfl, hb5⟩
    go_wp2_with fail
    go_ret
    exact ⟨rfl, hb5⟩
end Go.Proofs.Ytfikdnmbnbkchaa
