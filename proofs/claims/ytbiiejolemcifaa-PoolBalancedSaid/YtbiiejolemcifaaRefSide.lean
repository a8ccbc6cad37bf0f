/- lombardref04.may, Debit, Credit, Parts. -/
import Derived.Test.YtbiiejolemcifaaRefPart
import Derived.Test.YtbiiejolemcifaaSide
namespace Go.Proofs.Ytbiiejolemcifaa
open Go.RowKit FlM
attribute [local go_sem] run_store_complex run_store_float

theorem refMay4_any (v : Int) (r : Bool) (hr : (decide (0 ≤ v) && decide (v ≤ 1000000000000000)) = r) (w : World) : Calls Try.prog 80 #[.int .i64 v] w (Ret (.bool r) w) := by
  subst hr
  by_cases h1 : 0 ≤ v
  · by_cases h2 : v ≤ 1000000000000000
    · go_enter Try.func80, Try.ntmps80
      go_wp2
      go_ret
      simp [Ret, h1, h2]
    · go_enter Try.func80, Try.ntmps80
      go_wp2
      go_ret
      simp [Ret, h2]
  · go_enter Try.func80, Try.ntmps80
    go_wp2
    go_ret
    simp [Ret]
    omega
set_option maxHeartbeats 400000 in
theorem refDebit_any (v : Int) (s : Nat) (hs : Hid (sideW v = s)) (w : World) : Calls Try.prog 64 #[.int .i64 v] w (Ret (.complex .f64 s 0) w) := by
  by_cases h0 : 0 ≤ v ∧ v ≤ 1000000000000000
  · obtain ⟨h0, h1⟩ := h0
    have e : floatOfInt .f64 v = s := by
      rw [← hs.out]
      unfold sideW
      rw [if_neg (by omega)]
      have := floatOf_N v.toNat
      rwa [Int.toNat_of_nonneg (by omega)] at this
    have hm := refMay4_any v true (by simp; omega)
    have HM := Lib.hid hm
    clear hs hm
    go_enter Try.func64, Try.ntmps64
    go_wp2_with fail
    refine (HM.out _).mono ?_
    rintro _ w1 ⟨rfl, rfl⟩
    go_wp2
    go_ret
    first | exact ⟨rfl, rfl⟩ | (refine ⟨?_, rfl⟩; simp only [e]; rfl)
  · obtain rfl : 0 = s := by rw [← hs.out]; unfold sideW; rw [if_pos (by omega)]
    have hm := refMay4_any v false (by simp; omega)
    have HM := Lib.hid hm
    clear hs hm h0
    go_enter Try.func64, Try.ntmps64
    go_wp2_with fail
    refine (HM.out _).mono ?_
    rintro _ w1 ⟨rfl, rfl⟩
    go_wp2
    go_ret
    exact ⟨rfl, rfl⟩
set_option maxHeartbeats 400000 in
theorem refCredit_any (v : Int) (s : Nat) (hs : Hid (sideW v = s)) (w : World) : Calls Try.prog 65 #[.int .i64 v] w (Ret (.complex .f64 0 s) w) := by
  by_cases h0 : 0 ≤ v ∧ v ≤ 1000000000000000
  · obtain ⟨h0, h1⟩ := h0
    have e : floatOfInt .f64 v = s := by
      rw [← hs.out]
      unfold sideW
      rw [if_neg (by omega)]
      have := floatOf_N v.toNat
      rwa [Int.toNat_of_nonneg (by omega)] at this
    have hm := refMay4_any v true (by simp; omega)
    have HM := Lib.hid hm
    clear hs hm
    go_enter Try.func65, Try.ntmps65
    go_wp2_with fail
    refine (HM.out _).mono ?_
    rintro _ w1 ⟨rfl, rfl⟩
    go_wp2
    go_ret
    first | exact ⟨rfl, rfl⟩ | (refine ⟨?_, rfl⟩; simp only [e]; rfl)
  · obtain rfl : 0 = s := by rw [← hs.out]; unfold sideW; rw [if_pos (by omega)]
    have hm := refMay4_any v false (by simp; omega)
    have HM := Lib.hid hm
    clear hs hm h0
    go_enter Try.func65, Try.ntmps65
    go_wp2_with fail
    refine (HM.out _).mono ?_
    rintro _ w1 ⟨rfl, rfl⟩
    go_wp2
    go_ret
    exact ⟨rfl, rfl⟩
set_option maxHeartbeats 400000 in
theorem refParts_any (a b : Nat) (x y e : Int) (h : Hid (partsR a b = (x, y, e))) (w : World) : Calls Try.prog 78 #[.complex .f64 a b] w (Ret (.tuple #[.int .i64 x, .int .i64 y, .int .i64 e]) w) := by
  obtain ⟨p, hp⟩ : ∃ r, (FlM.part a).isSome = r := ⟨_, rfl⟩
  obtain ⟨q, hq⟩ : ∃ r, (FlM.part b).isSome = r := ⟨_, rfl⟩
  have HP := Lib.hid hp
  have HQ := Lib.hid hq
  cases hr : (p && q) with
  | false =>
    obtain ⟨rfl, rfl, rfl⟩ := partsR_no h.out (by rw [hp, hq]; exact hr)
    clear h hp hq
    go_enter Try.func78, Try.ntmps78
    go_wp2_with fail
    refine (refPart_any a p HP _).mono ?_
    rintro _ w1 ⟨n, rfl, hn, rfl⟩
    clear hn
    go_wp2_with fail
    refine (refPart_any b q HQ _).mono ?_
    rintro _ w1 ⟨m, rfl, hm, rfl⟩
    clear hm
    cases p
    all_goals cases q
    all_goals first | (cases hr; done) | (clear hr; go_wp2; go_ret3; exact ⟨rfl, rfl⟩)
  | true =>
    obtain ⟨rfl, rfl⟩ : p = true ∧ q = true := by simpa using hr
    obtain ⟨n, hn⟩ := Option.isSome_iff_exists.1 hp
    obtain ⟨m, hm⟩ := Option.isSome_iff_exists.1 hq
    obtain ⟨h1, h2, h3⟩ := partsR_yes h.out hn hm
    have HR := Lib.hid (And.intro h1 (And.intro h2 h3))
    have HNM := Lib.hid (And.intro hn hm)
    clear h hp hq hn hm h1 h2 h3 hr
    go_enter Try.func78, Try.ntmps78
    go_wp2_with fail
    refine (refPart_any a true HP _).mono ?_
    rintro _ w1 ⟨n', rfl, hn', rfl⟩
    have h1 := Lib.hid (hn' n HNM.out.1)
    clear hn'
    go_wp2_with fail
    refine (refPart_any b true HQ _).mono ?_
    rintro _ w1 ⟨m', rfl, hm', rfl⟩
    have h2 := Lib.hid (hm' m HNM.out.2)
    clear hm'
    go_wp2
    go_ret3
    refine ⟨?_, rfl⟩
    rw [← HR.out.1, ← HR.out.2.1, ← HR.out.2.2, ← h1.out, ← h2.out]
    rfl
end Go.Proofs.Ytbiiejolemcifaa
