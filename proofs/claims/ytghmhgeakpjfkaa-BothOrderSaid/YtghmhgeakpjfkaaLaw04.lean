/- The laws of layer 4: BothTell, BothBound. -/
import Derived.Test.YtghmhgeakpjfkaaPostC
namespace Go.Proofs.Ytghmhgeakpjfkaa
open Go.RowKit FlM
attribute [local go_sem] run_store_complex run_store_float

theorem refMay4_any (v : Int) (r : Bool) (hr : (decide (0 ≤ v) && decide (v ≤ 1000000000000000)) = r) (w : World) : Calls Try.prog 43 #[.int .i64 v] w (Ret (.bool r) w) := by
  subst hr
  by_cases h1 : 0 ≤ v
  · by_cases h2 : v ≤ 1000000000000000
    · go_enter Try.func43, Try.ntmps43
      go_wp2
      go_ret
      simp [Ret, h1, h2]
    · go_enter Try.func43, Try.ntmps43
      go_wp2
      go_ret
      simp [Ret, h2]
  · go_enter Try.func43, Try.ntmps43
    go_wp2
    go_ret
    simp [Ret]
    omega
set_option maxHeartbeats 400000 in
theorem refDebit_any (v : Int) (s : Nat) (hs : Hid (sideW v = s)) (w : World) : Calls Try.prog 19 #[.int .i64 v] w (Ret (.complex .f64 s 0) w) := by
  by_cases h0 : 0 ≤ v ∧ v ≤ 1000000000000000
  · obtain ⟨h0, h1⟩ := h0
    have e : floatOfInt .f64 v = s := by
      rw [← hs.out]
      unfold sideW
      rw [if_neg (by omega)]
      have := floatOf_N v.toNat
      rwa [Int.toNat_of_nonneg (by omega)] at this
    have hm := refMay4_any v true (by simp; omega)
    have HM := Lib.hid hm
    clear hs hm
    go_enter Try.func19, Try.ntmps19
    go_wp2_with fail
    refine (HM.out _).mono ?_
    rintro _ w1 ⟨rfl, rfl⟩
    go_wp2
    go_ret
    first | exact ⟨rfl, rfl⟩ | (refine ⟨?_, rfl⟩; simp only [e]; rfl)
  · obtain rfl : 0 = s := by rw [← hs.out]; unfold sideW; rw [if_pos (by omega)]
    have hm := refMay4_any v false (by simp; omega)
    have HM := Lib.hid hm
    clear hs hm h0
    go_enter Try.func19, Try.ntmps19
    go_wp2_with fail
    refine (HM.out _).mono ?_
    rintro _ w1 ⟨rfl, rfl⟩
    go_wp2
    go_ret
    exact ⟨rfl, rfl⟩
set_option maxHeartbeats 400000 in
theorem refCredit_any (v : Int) (s : Nat) (hs : Hid (sideW v = s)) (w : World) : Calls Try.prog 21 #[.int .i64 v] w (Ret (.complex .f64 0 s) w) := by
  by_cases h0 : 0 ≤ v ∧ v ≤ 1000000000000000
  · obtain ⟨h0, h1⟩ := h0
    have e : floatOfInt .f64 v = s := by
      rw [← hs.out]
      unfold sideW
      rw [if_neg (by omega)]
      have := floatOf_N v.toNat
      rwa [Int.toNat_of_nonneg (by omega)] at this
    have hm := refMay4_any v true (by simp; omega)
    have HM := Lib.hid hm
    clear hs hm
    go_enter Try.func21, Try.ntmps21
    go_wp2_with fail
    refine (HM.out _).mono ?_
    rintro _ w1 ⟨rfl, rfl⟩
    go_wp2
    go_ret
    first | exact ⟨rfl, rfl⟩ | (refine ⟨?_, rfl⟩; simp only [e]; rfl)
  · obtain rfl : 0 = s := by rw [← hs.out]; unfold sideW; rw [if_pos (by omega)]
    have hm := refMay4_any v false (by simp; omega)
    have HM := Lib.hid hm
    clear hs hm h0
    go_enter Try.func21, Try.ntmps21
    go_wp2_with fail
    refine (HM.out _).mono ?_
    rintro _ w1 ⟨rfl, rfl⟩
    go_wp2
    go_ret
    exact ⟨rfl, rfl⟩
set_option maxHeartbeats 400000 in
theorem refParts_any (a b : Nat) (x y e : Int) (h : Hid (partsR a b = (x, y, e))) (w : World) : Calls Try.prog 15 #[.complex .f64 a b] w (Ret (.tuple #[.int .i64 x, .int .i64 y, .int .i64 e]) w) := by
  obtain ⟨p, hp⟩ : ∃ r, (FlM.part a).isSome = r := ⟨_, rfl⟩
  obtain ⟨q, hq⟩ : ∃ r, (FlM.part b).isSome = r := ⟨_, rfl⟩
  have HP := Lib.hid hp
  have HQ := Lib.hid hq
  cases hr : (p && q) with
  | false =>
    obtain ⟨rfl, rfl, rfl⟩ := partsR_no h.out (by rw [hp, hq]; exact hr)
    clear h hp hq
    go_enter Try.func15, Try.ntmps15
    go_wp2_with fail
    refine (refPart_any a p HP _).mono ?_
    rintro _ w1 ⟨n, rfl, hn, rfl⟩
    clear hn
    go_wp2_with fail
    refine (refPart_any b q HQ _).mono ?_
    rintro _ w1 ⟨m, rfl, hm, rfl⟩
    clear hm
    cases p
    all_goals cases q
    all_goals first | (cases hr; done) | (clear hr; go_wp2; go_ret3; exact ⟨rfl, rfl⟩)
  | true =>
    obtain ⟨rfl, rfl⟩ : p = true ∧ q = true := by simpa using hr
    obtain ⟨n, hn⟩ := Option.isSome_iff_exists.1 hp
    obtain ⟨m, hm⟩ := Option.isSome_iff_exists.1 hq
    obtain ⟨h1, h2, h3⟩ := partsR_yes h.out hn hm
    have HR := Lib.hid (And.intro h1 (And.intro h2 h3))
    have HNM := Lib.hid (And.intro hn hm)
    clear h hp hq hn hm h1 h2 h3 hr
    go_enter Try.func15, Try.ntmps15
    go_wp2_with fail
    refine (refPart_any a true HP _).mono ?_
    rintro _ w1 ⟨n', rfl, hn', rfl⟩
    have h1 := Lib.hid (hn' n HNM.out.1)
    clear hn'
    go_wp2_with fail
    refine (refPart_any b true HQ _).mono ?_
    rintro _ w1 ⟨m', rfl, hm', rfl⟩
    have h2 := Lib.hid (hm' m HNM.out.2)
    clear hm'
    go_wp2
    go_ret3
    refine ⟨?_, rfl⟩
    rw [← HR.out.1, ← HR.out.2.1, ← HR.out.2.2, ← h1.out, ← h2.out]
    rfl
/-- Two words that are the same are alike, also where they are no number. -/
theorem eqOne_any (x : Nat) (w : World) : Calls Try.prog 41 #[.float .f64 x, .float .f64 x] w (Ret (.bool true) w) := by
  rcases (show (FloatKind.f64.format.order x x == some .eq) = true ∨ ((FloatKind.f64.format.order x x == some .eq) = false ∧ (FloatKind.f64.format.order x x != some .eq) = true) by
    cases h : (FloatKind.f64.format.order x x == some .eq) with
    | true => exact Or.inl rfl
    | false => exact Or.inr ⟨rfl, by simp [bne, h]⟩) with g | ⟨g, g2⟩
  all_goals
    go_enter Try.func41, Try.ntmps41
    go_wp2
    go_ret
    exact ⟨rfl, rfl⟩
theorem eq4_any (a b : Nat) (w : World) : Calls Try.prog 17 #[.complex .f64 a b, .complex .f64 a b] w (Ret (.bool true) w) := by
  go_enter Try.func17, Try.ntmps17
  go_wp2_with fail
  refine (eqOne_any a _).mono ?_
  rintro _ w1 ⟨rfl, rfl⟩
  go_wp2_with fail
  refine (eqOne_any b _).mono ?_
  rintro _ w1 ⟨rfl, rfl⟩
  go_wp2
  go_ret
  exact ⟨rfl, rfl⟩
set_option maxHeartbeats 800000 in
set_option maxRecDepth 100000 in
theorem bothTell_any (v : Int) (a b : Nat) (w : World) : Calls Try.prog 3 #[.int .i64 v, .float .f64 a, .float .f64 b] w (RetB (.bool true) w) := by
  obtain ⟨x, y, e, h⟩ : ∃ x y e, partsR a b = (x, y, e) := ⟨_, _, _, rfl⟩
  obtain ⟨s, hs⟩ : ∃ s, sideW v = s := ⟨_, rfl⟩
  have H := Lib.hid h
  have HS := Lib.hid hs
  clear h hs
  go_enter Try.func3, Try.ntmps3
  go_wp2_with fail
  refine (parts_any a b x y e H _).mono ?_
  rintro _ w1 ⟨rfl, rfl⟩
  go_wp2_with fail
  refine (refParts_any a b x y e H _).mono ?_
  rintro _ w1 ⟨rfl, rfl⟩
  go_wp2_with fail
  refine (awake4_any _).mono ?_
  rintro _ w1 ⟨rfl, hb1⟩
  go_wp2_with fail
  refine (debit_any v s HS _).mono ?_
  rintro _ w2 ⟨rfl, rfl⟩
  go_wp2_with fail
  refine (refDebit_any v s HS _).mono ?_
  rintro _ w2 ⟨rfl, rfl⟩
  go_wp2_with fail
  refine (eq4_any s 0 _).mono ?_
  rintro _ w2 ⟨rfl, rfl⟩
  go_wp2_with fail
  refine (credit_any v s HS _).mono ?_
  rintro _ w2 ⟨rfl, rfl⟩
  go_wp2_with fail
  refine (refCredit_any v s HS _).mono ?_
  rintro _ w2 ⟨rfl, rfl⟩
  go_wp2_with fail
  refine (eq4_any 0 s _).mono ?_
  rintro _ w2 ⟨rfl, rfl⟩
  go_wp2
  go_ret
  exact ⟨rfl, hb1⟩
end Go.Proofs.Ytghmhgeakpjfkaa
