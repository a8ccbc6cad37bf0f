/- EventDays: from the first day on, up to the calendar's last one. -/
import Derived.Test.YtofajlemknkndaaLaw07
import Derived.Deep.RegionHeld3
namespace Go.Proofs.Ytofajlemknkndaa
open Go.RowKit

set_option maxHeartbeats 800000 in
theorem evDays_1_early (day kind : Int) (hq : (IntKind.u64.wrap kind).tmod 6 = 0) (h : day < 10957) (w : World) : Calls Try.prog 8 #[.int .i64 day, .int .i64 kind] w (RetB (.bool true) w) := by
  have HE : Hid (rightE 0 [(0, false), (0, false)] 1 1 0 0 10957 1 day 1 5 0 = 10) := by
    have e : rightE 0 [(0, false), (0, false)] 1 1 0 0 10957 1 day 1 5 0 = if (decide (day < 10957) || decide (2932896 < day)) = true then 10 else 0 := by rfl
    show _ = _
    rw [e]
    simp only [show decide (day < 10957) = true from by simpa using h]; rfl
  have d1 : decide (10957 ≤ day) = false := by simp; omega
  go_enter Try.func8, Try.ntmps8
  go_wp2_with fail
  have f0 : (w.alloc (.cells #[.int .i64 1, .int .i64 day, .int .i64 1, .int .i64 5, .int .i64 0] 49)).cell? ⟨w.heap.size, 0, none⟩ = some (.int .i64 1) ∧ (w.alloc (.cells #[.int .i64 1, .int .i64 day, .int .i64 1, .int .i64 5, .int .i64 0] 49)).cell? ⟨w.heap.size, 1, none⟩ = some (.int .i64 day) ∧ (w.alloc (.cells #[.int .i64 1, .int .i64 day, .int .i64 1, .int .i64 5, .int .i64 0] 49)).cell? ⟨w.heap.size, 2, none⟩ = some (.int .i64 1) ∧ (w.alloc (.cells #[.int .i64 1, .int .i64 day, .int .i64 1, .int .i64 5, .int .i64 0] 49)).cell? ⟨w.heap.size, 3, none⟩ = some (.int .i64 5) ∧ (w.alloc (.cells #[.int .i64 1, .int .i64 day, .int .i64 1, .int .i64 5, .int .i64 0] 49)).cell? ⟨w.heap.size, 4, none⟩ = some (.int .i64 0) := by simp [go_sem]
  have b0 : Below w.heap.size w (w.alloc (.cells #[.int .i64 1, .int .i64 day, .int .i64 1, .int .i64 5, .int .i64 0] 49)) := (by repeat (first | exact Below.refl _ _ | refine bl_al ?_ _ | refine bl_dr ?_ | refine bl_dN ?_ _ | refine bl_tr ?_ (by assumption)))
  have z0 : w.heap.size < (w.alloc (.cells #[.int .i64 1, .int .i64 day, .int .i64 1, .int .i64 5, .int .i64 0] 49)).heap.size := by simp only [World.size_alloc]; omega
  generalize (w.alloc (.cells #[.int .i64 1, .int .i64 day, .int .i64 1, .int .i64 5, .int .i64 0] 49)) = W0 at f0 b0 z0 ⊢
  obtain ⟨f0, f1, f2, f3, f4⟩ := f0
  go_region_held3 (fun w' => w'.cell? ⟨w.heap.size, 0, none⟩ = some (.int .i64 1) ∧ w'.cell? ⟨w.heap.size, 1, none⟩ = some (.int .i64 day) ∧ w'.cell? ⟨w.heap.size, 2, none⟩ = some (.int .i64 1) ∧ w'.cell? ⟨w.heap.size, 3, none⟩ = some (.int .i64 5) ∧ w'.cell? ⟨w.heap.size, 4, none⟩ = some (.int .i64 0)) (first | assumption | (refine ⟨?_, ?_, ?_, ?_, ?_⟩ <;> (first | assumption | (simp [go_sem, f0, f1, f2, f3, f4]))))
    (first
      | (go_at_call 25; refine (terms7_any _).mono ?_; rintro e w1 ⟨v1, rfl, ht1, hb1⟩; have hc1 : w1.cell? ⟨w.heap.size, 0, none⟩ = some (.int .i64 1) ∧ w1.cell? ⟨w.heap.size, 1, none⟩ = some (.int .i64 day) ∧ w1.cell? ⟨w.heap.size, 2, none⟩ = some (.int .i64 1) ∧ w1.cell? ⟨w.heap.size, 3, none⟩ = some (.int .i64 5) ∧ w1.cell? ⟨w.heap.size, 4, none⟩ = some (.int .i64 0) := ⟨(hb1.cell (p := ⟨w.heap.size, 0, none⟩) z0).trans f0, (hb1.cell (p := ⟨w.heap.size, 1, none⟩) z0).trans f1, (hb1.cell (p := ⟨w.heap.size, 2, none⟩) z0).trans f2, (hb1.cell (p := ⟨w.heap.size, 3, none⟩) z0).trans f3, (hb1.cell (p := ⟨w.heap.size, 4, none⟩) z0).trans f4⟩)
      | (go_at_call 24; refine (evRight_any _ [(0, false), (0, false)] 0 1 1 0 0 10957 1 day 1 5 0 10 HE _ ht1).mono ?_; rintro e w2 ⟨rfl, hb2⟩; obtain ⟨c0, c1, c2, c3, c4⟩ := hc1; have hz1 := hb1.size; have z1 : w.heap.size < w1.heap.size := Nat.lt_of_lt_of_le z0 hz1; have hc2 : w2.cell? ⟨w.heap.size, 0, none⟩ = some (.int .i64 1) ∧ w2.cell? ⟨w.heap.size, 1, none⟩ = some (.int .i64 day) ∧ w2.cell? ⟨w.heap.size, 2, none⟩ = some (.int .i64 1) ∧ w2.cell? ⟨w.heap.size, 3, none⟩ = some (.int .i64 5) ∧ w2.cell? ⟨w.heap.size, 4, none⟩ = some (.int .i64 0) := ⟨(hb2.cell (p := ⟨w.heap.size, 0, none⟩) z1).trans c0, (hb2.cell (p := ⟨w.heap.size, 1, none⟩) z1).trans c1, (hb2.cell (p := ⟨w.heap.size, 2, none⟩) z1).trans c2, (hb2.cell (p := ⟨w.heap.size, 3, none⟩) z1).trans c3, (hb2.cell (p := ⟨w.heap.size, 4, none⟩) z1).trans c4⟩))
  have hbw2 : Below w.heap.size w w2 := (by repeat (first | exact Below.refl _ _ | refine bl_al ?_ _ | refine bl_dr ?_ | refine bl_dN ?_ _ | refine bl_tr ?_ (by assumption)))
  clear hc2 hb1 hb2 ht1 f0 f1 f2 f3 f4
  go_wp2_with fail
  refine (awake7_any _).mono ?_
  rintro e w3 ⟨rfl, hb3⟩
  go_wp2_with fail
  go_ret
  exact ⟨rfl, (by repeat (first | exact Below.refl _ _ | refine bl_al ?_ _ | refine bl_dr ?_ | refine bl_dN ?_ _ | refine bl_tr ?_ (by assumption)))⟩
set_option maxHeartbeats 800000 in
theorem evDays_1_late (day kind : Int) (hq : (IntKind.u64.wrap kind).tmod 6 = 0) (h : 2932896 < day) (w : World) : Calls Try.prog 8 #[.int .i64 day, .int .i64 kind] w (RetB (.bool true) w) := by
  have HE : Hid (rightE 0 [(0, false), (0, false)] 1 1 0 0 10957 1 day 1 5 0 = 10) := by
    have e : rightE 0 [(0, false), (0, false)] 1 1 0 0 10957 1 day 1 5 0 = if (decide (day < 10957) || decide (2932896 < day)) = true then 10 else 0 := by rfl
    show _ = _
    rw [e]
    simp only [show decide (2932896 < day) = true from by simpa using h, Bool.or_true]; rfl
  have d1 : decide (10957 ≤ day) = true := by simp; omega
  have d2 : decide (day ≤ 2932896) = false := by simp; omega
  go_enter Try.func8, Try.ntmps8
  go_wp2_with fail
  have f0 : (w.alloc (.cells #[.int .i64 1, .int .i64 day, .int .i64 1, .int .i64 5, .int .i64 0] 49)).cell? ⟨w.heap.size, 0, none⟩ = some (.int .i64 1) ∧ (w.alloc (.cells #[.int .i64 1, .int .i64 day, .int .i64 1, .int .i64 5, .int .i64 0] 49)).cell? ⟨w.heap.size, 1, none⟩ = some (.int .i64 day) ∧ (w.alloc (.cells #[.int .i64 1, .int .i64 day, .int .i64 1, .int .i64 5, .int .i64 0] 49)).cell? ⟨w.heap.size, 2, none⟩ = some (.int .i64 1) ∧ (w.alloc (.cells #[.int .i64 1, .int .i64 day, .int .i64 1, .int .i64 5, .int .i64 0] 49)).cell? ⟨w.heap.size, 3, none⟩ = some (.int .i64 5) ∧ (w.alloc (.cells #[.int .i64 1, .int .i64 day, .int .i64 1, .int .i64 5, .int .i64 0] 49)).cell? ⟨w.heap.size, 4, none⟩ = some (.int .i64 0) := by simp [go_sem]
  have b0 : Below w.heap.size w (w.alloc (.cells #[.int .i64 1, .int .i64 day, .int .i64 1, .int .i64 5, .int .i64 0] 49)) := (by repeat (first | exact Below.refl _ _ | refine bl_al ?_ _ | refine bl_dr ?_ | refine bl_dN ?_ _ | refine bl_tr ?_ (by assumption)))
  have z0 : w.heap.size < (w.alloc (.cells #[.int .i64 1, .int .i64 day, .int .i64 1, .int .i64 5, .int .i64 0] 49)).heap.size := by simp only [World.size_alloc]; omega
  generalize (w.alloc (.cells #[.int .i64 1, .int .i64 day, .int .i64 1, .int .i64 5, .int .i64 0] 49)) = W0 at f0 b0 z0 ⊢
  obtain ⟨f0, f1, f2, f3, f4⟩ := f0
  go_region_held3 (fun w' => w'.cell? ⟨w.heap.size, 0, none⟩ = some (.int .i64 1) ∧ w'.cell? ⟨w.heap.size, 1, none⟩ = some (.int .i64 day) ∧ w'.cell? ⟨w.heap.size, 2, none⟩ = some (.int .i64 1) ∧ w'.cell? ⟨w.heap.size, 3, none⟩ = some (.int .i64 5) ∧ w'.cell? ⟨w.heap.size, 4, none⟩ = some (.int .i64 0)) (first | assumption | (refine ⟨?_, ?_, ?_, ?_, ?_⟩ <;> (first | assumption | (simp [go_sem, f0, f1, f2, f3, f4]))))
    (first
      | (go_at_call 25; refine (terms7_any _).mono ?_; rintro e w1 ⟨v1, rfl, ht1, hb1⟩; have hc1 : w1.cell? ⟨w.heap.size, 0, none⟩ = some (.int .i64 1) ∧ w1.cell? ⟨w.heap.size, 1, none⟩ = some (.int .i64 day) ∧ w1.cell? ⟨w.heap.size, 2, none⟩ = some (.int .i64 1) ∧ w1.cell? ⟨w.heap.size, 3, none⟩ = some (.int .i64 5) ∧ w1.cell? ⟨w.heap.size, 4, none⟩ = some (.int .i64 0) := ⟨(hb1.cell (p := ⟨w.heap.size, 0, none⟩) z0).trans f0, (hb1.cell (p := ⟨w.heap.size, 1, none⟩) z0).trans f1, (hb1.cell (p := ⟨w.heap.size, 2, none⟩) z0).trans f2, (hb1.cell (p := ⟨w.heap.size, 3, none⟩) z0).trans f3, (hb1.cell (p := ⟨w.heap.size, 4, none⟩) z0).trans f4⟩)
      | (go_at_call 24; refine (evRight_any _ [(0, false), (0, false)] 0 1 1 0 0 10957 1 day 1 5 0 10 HE _ ht1).mono ?_; rintro e w2 ⟨rfl, hb2⟩; obtain ⟨c0, c1, c2, c3, c4⟩ := hc1; have hz1 := hb1.size; have z1 : w.heap.size < w1.heap.size := Nat.lt_of_lt_of_le z0 hz1; have hc2 : w2.cell? ⟨w.heap.size, 0, none⟩ = some (.int .i64 1) ∧ w2.cell? ⟨w.heap.size, 1, none⟩ = some (.int .i64 day) ∧ w2.cell? ⟨w.heap.size, 2, none⟩ = some (.int .i64 1) ∧ w2.cell? ⟨w.heap.size, 3, none⟩ = some (.int .i64 5) ∧ w2.cell? ⟨w.heap.size, 4, none⟩ = some (.int .i64 0) := ⟨(hb2.cell (p := ⟨w.heap.size, 0, none⟩) z1).trans c0, (hb2.cell (p := ⟨w.heap.size, 1, none⟩) z1).trans c1, (hb2.cell (p := ⟨w.heap.size, 2, none⟩) z1).trans c2, (hb2.cell (p := ⟨w.heap.size, 3, none⟩) z1).trans c3, (hb2.cell (p := ⟨w.heap.size, 4, none⟩) z1).trans c4⟩))
  have hbw2 : Below w.heap.size w w2 := (by repeat (first | exact Below.refl _ _ | refine bl_al ?_ _ | refine bl_dr ?_ | refine bl_dN ?_ _ | refine bl_tr ?_ (by assumption)))
  clear hc2 hb1 hb2 ht1 f0 f1 f2 f3 f4
  go_wp2_with fail
  refine (awake7_any _).mono ?_
  rintro e w3 ⟨rfl, hb3⟩
  go_wp2_with fail
  go_ret
  exact ⟨rfl, (by repeat (first | exact Below.refl _ _ | refine bl_al ?_ _ | refine bl_dr ?_ | refine bl_dN ?_ _ | refine bl_tr ?_ (by assumption)))⟩
set_option maxHeartbeats 800000 in
theorem evDays_1_good (day kind : Int) (hq : (IntKind.u64.wrap kind).tmod 6 = 0) (h : 10957 ≤ day ∧ day ≤ 2932896) (w : World) : Calls Try.prog 8 #[.int .i64 day, .int .i64 kind] w (RetB (.bool true) w) := by
  have HE : Hid (rightE 0 [(0, false), (0, false)] 1 1 0 0 10957 1 day 1 5 0 = 0) := by
    have e : rightE 0 [(0, false), (0, false)] 1 1 0 0 10957 1 day 1 5 0 = if (decide (day < 10957) || decide (2932896 < day)) = true then 10 else 0 := by rfl
    show _ = _
    rw [e]
    simp only [show decide (day < 10957) = false from by simp; omega, show decide (2932896 < day) = false from by simp; omega]; rfl
  have d1 : decide (10957 ≤ day) = true := by simp; omega
  have d2 : decide (day ≤ 2932896) = true := by simp; omega
  go_enter Try.func8, Try.ntmps8
  go_wp2_with fail
  have f0 : (w.alloc (.cells #[.int .i64 1, .int .i64 day, .int .i64 1, .int .i64 5, .int .i64 0] 49)).cell? ⟨w.heap.size, 0, none⟩ = some (.int .i64 1) ∧ (w.alloc (.cells #[.int .i64 1, .int .i64 day, .int .i64 1, .int .i64 5, .int .i64 0] 49)).cell? ⟨w.heap.size, 1, none⟩ = some (.int .i64 day) ∧ (w.alloc (.cells #[.int .i64 1, .int .i64 day, .int .i64 1, .int .i64 5, .int .i64 0] 49)).cell? ⟨w.heap.size, 2, none⟩ = some (.int .i64 1) ∧ (w.alloc (.cells #[.int .i64 1, .int .i64 day, .int .i64 1, .int .i64 5, .int .i64 0] 49)).cell? ⟨w.heap.size, 3, none⟩ = some (.int .i64 5) ∧ (w.alloc (.cells #[.int .i64 1, .int .i64 day, .int .i64 1, .int .i64 5, .int .i64 0] 49)).cell? ⟨w.heap.size, 4, none⟩ = some (.int .i64 0) := by simp [go_sem]
  have b0 : Below w.heap.size w (w.alloc (.cells #[.int .i64 1, .int .i64 day, .int .i64 1, .int .i64 5, .int .i64 0] 49)) := (by repeat (first | exact Below.refl _ _ | refine bl_al ?_ _ | refine bl_dr ?_ | refine bl_dN ?_ _ | refine bl_tr ?_ (by assumption)))
  have z0 : w.heap.size < (w.alloc (.cells #[.int .i64 1, .int .i64 day, .int .i64 1, .int .i64 5, .int .i64 0] 49)).heap.size := by simp only [World.size_alloc]; omega
  generalize (w.alloc (.cells #[.int .i64 1, .int .i64 day, .int .i64 1, .int .i64 5, .int .i64 0] 49)) = W0 at f0 b0 z0 ⊢
  obtain ⟨f0, f1, f2, f3, f4⟩ := f0
  go_region_held3 (fun w' => w'.cell? ⟨w.heap.size, 0, none⟩ = some (.int .i64 1) ∧ w'.cell? ⟨w.heap.size, 1, none⟩ = some (.int .i64 day) ∧ w'.cell? ⟨w.heap.size, 2, none⟩ = some (.int .i64 1) ∧ w'.cell? ⟨w.heap.size, 3, none⟩ = some (.int .i64 5) ∧ w'.cell? ⟨w.heap.size, 4, none⟩ = some (.int .i64 0)) (first | assumption | (refine ⟨?_, ?_, ?_, ?_, ?_⟩ <;> (first | assumption | (simp [go_sem, f0, f1, f2, f3, f4]))))
    (first
      | (go_at_call 25; refine (terms7_any _).mono ?_; rintro e w1 ⟨v1, rfl, ht1, hb1⟩; have hc1 : w1.cell? ⟨w.heap.size, 0, none⟩ = some (.int .i64 1) ∧ w1.cell? ⟨w.heap.size, 1, none⟩ = some (.int .i64 day) ∧ w1.cell? ⟨w.heap.size, 2, none⟩ = some (.int .i64 1) ∧ w1.cell? ⟨w.heap.size, 3, none⟩ = some (.int .i64 5) ∧ w1.cell? ⟨w.heap.size, 4, none⟩ = some (.int .i64 0) := ⟨(hb1.cell (p := ⟨w.heap.size, 0, none⟩) z0).trans f0, (hb1.cell (p := ⟨w.heap.size, 1, none⟩) z0).trans f1, (hb1.cell (p := ⟨w.heap.size, 2, none⟩) z0).trans f2, (hb1.cell (p := ⟨w.heap.size, 3, none⟩) z0).trans f3, (hb1.cell (p := ⟨w.heap.size, 4, none⟩) z0).trans f4⟩)
      | (go_at_call 24; refine (evRight_any _ [(0, false), (0, false)] 0 1 1 0 0 10957 1 day 1 5 0 0 HE _ ht1).mono ?_; rintro e w2 ⟨rfl, hb2⟩; obtain ⟨c0, c1, c2, c3, c4⟩ := hc1; have hz1 := hb1.size; have z1 : w.heap.size < w1.heap.size := Nat.lt_of_lt_of_le z0 hz1; have hc2 : w2.cell? ⟨w.heap.size, 0, none⟩ = some (.int .i64 1) ∧ w2.cell? ⟨w.heap.size, 1, none⟩ = some (.int .i64 day) ∧ w2.cell? ⟨w.heap.size, 2, none⟩ = some (.int .i64 1) ∧ w2.cell? ⟨w.heap.size, 3, none⟩ = some (.int .i64 5) ∧ w2.cell? ⟨w.heap.size, 4, none⟩ = some (.int .i64 0) := ⟨(hb2.cell (p := ⟨w.heap.size, 0, none⟩) z1).trans c0, (hb2.cell (p := ⟨w.heap.size, 1, none⟩) z1).trans c1, (hb2.cell (p := ⟨w.heap.size, 2, none⟩) z1).trans c2, (hb2.cell (p := ⟨w.heap.size, 3, none⟩) z1).trans c3, (hb2.cell (p := ⟨w.heap.size, 4, none⟩) z1).trans c4⟩))
  have hbw2 : Below w.heap.size w w2 := (by repeat (first | exact Below.refl _ _ | refine bl_al ?_ _ | refine bl_dr ?_ | refine bl_dN ?_ _ | refine bl_tr ?_ (by assumption)))
  clear hc2 hb1 hb2 ht1 f0 f1 f2 f3 f4
  go_wp2_with fail
  refine (awake7_any _).mono ?_
  rintro e w3 ⟨rfl, hb3⟩
  go_wp2_with fail
  go_ret
  exact ⟨rfl, (by repeat (first | exact Below.refl _ _ | refine bl_al ?_ _ | refine bl_dr ?_ | refine bl_dN ?_ _ | refine bl_tr ?_ (by assumption)))⟩
set_option maxHeartbeats 800000 in
theorem evDays_2_early (day kind : Int) (hq : (IntKind.u64.wrap kind).tmod 6 = 1) (h : day < 10957) (w : World) : Calls Try.prog 8 #[.int .i64 day, .int .i64 kind] w (RetB (.bool true) w) := by
  have HE : Hid (rightE 0 [(0, false), (0, false)] 1 1 0 0 10957 2 day 0 5 0 = 10) := by
    have e : rightE 0 [(0, false), (0, false)] 1 1 0 0 10957 2 day 0 5 0 = if (decide (day < 10957) || decide (2932896 < day)) = true then 10 else 0 := by rfl
    show _ = _
    rw [e]
    simp only [show decide (day < 10957) = true from by simpa using h]; rfl
  have d1 : decide (10957 ≤ day) = false := by simp; omega
  go_enter Try.func8, Try.ntmps8
  go_wp2_with fail
  have f0 : (w.alloc (.cells #[.int .i64 2, .int .i64 day, .int .i64 0, .int .i64 5, .int .i64 0] 49)).cell? ⟨w.heap.size, 0, none⟩ = some (.int .i64 2) ∧ (w.alloc (.cells #[.int .i64 2, .int .i64 day, .int .i64 0, .int .i64 5, .int .i64 0] 49)).cell? ⟨w.heap.size, 1, none⟩ = some (.int .i64 day) ∧ (w.alloc (.cells #[.int .i64 2, .int .i64 day, .int .i64 0, .int .i64 5, .int .i64 0] 49)).cell? ⟨w.heap.size, 2, none⟩ = some (.int .i64 0) ∧ (w.alloc (.cells #[.int .i64 2, .int .i64 day, .int .i64 0, .int .i64 5, .int .i64 0] 49)).cell? ⟨w.heap.size, 3, none⟩ = some (.int .i64 5) ∧ (w.alloc (.cells #[.int .i64 2, .int .i64 day, .int .i64 0, .int .i64 5, .int .i64 0] 49)).cell? ⟨w.heap.size, 4, none⟩ = some (.int .i64 0) := by simp [go_sem]
  have b0 : Below w.heap.size w (w.alloc (.cells #[.int .i64 2, .int .i64 day, .int .i64 0, .int .i64 5, .int .i64 0] 49)) := (by repeat (first | exact Below.refl _ _ | refine bl_al ?_ _ | refine bl_dr ?_ | refine bl_dN ?_ _ | refine bl_tr ?_ (by assumption)))
  have z0 : w.heap.size < (w.alloc (.cells #[.int .i64 2, .int .i64 day, .int .i64 0, .int .i64 5, .int .i64 0] 49)).heap.size := by simp only [World.size_alloc]; omega
  generalize (w.alloc (.cells #[.int .i64 2, .int .i64 day, .int .i64 0, .int .i64 5, .int .i64 0] 49)) = W0 at f0 b0 z0 ⊢
  obtain ⟨f0, f1, f2, f3, f4⟩ := f0
  go_region_held3 (fun w' => w'.cell? ⟨w.heap.size, 0, none⟩ = some (.int .i64 2) ∧ w'.cell? ⟨w.heap.size, 1, none⟩ = some (.int .i64 day) ∧ w'.cell? ⟨w.heap.size, 2, none⟩ = some (.int .i64 0) ∧ w'.cell? ⟨w.heap.size, 3, none⟩ = some (.int .i64 5) ∧ w'.cell? ⟨w.heap.size, 4, none⟩ = some (.int .i64 0)) (first | assumption | (refine ⟨?_, ?_, ?_, ?_, ?_⟩ <;> (first | assumption | (simp [go_sem, f0, f1, f2, f3, f4]))))
    (first
      | (go_at_call 25; refine (terms7_any _).mono ?_; rintro e w1 ⟨v1, rfl, ht1, hb1⟩; have hc1 : w1.cell? ⟨w.heap.size, 0, none⟩ = some (.int .i64 2) ∧ w1.cell? ⟨w.heap.size, 1, none⟩ = some (.int .i64 day) ∧ w1.cell? ⟨w.heap.size, 2, none⟩ = some (.int .i64 0) ∧ w1.cell? ⟨w.heap.size, 3, none⟩ = some (.int .i64 5) ∧ w1.cell? ⟨w.heap.size, 4, none⟩ = some (.int .i64 0) := ⟨(hb1.cell (p := ⟨w.heap.size, 0, none⟩) z0).trans f0, (hb1.cell (p := ⟨w.heap.size, 1, none⟩) z0).trans f1, (hb1.cell (p := ⟨w.heap.size, 2, none⟩) z0).trans f2, (hb1.cell (p := ⟨w.heap.size, 3, none⟩) z0).trans f3, (hb1.cell (p := ⟨w.heap.size, 4, none⟩) z0).trans f4⟩)
      | (go_at_call 24; refine (evRight_any _ [(0, false), (0, false)] 0 1 1 0 0 10957 2 day 0 5 0 10 HE _ ht1).mono ?_; rintro e w2 ⟨rfl, hb2⟩; obtain ⟨c0, c1, c2, c3, c4⟩ := hc1; have hz1 := hb1.size; have z1 : w.heap.size < w1.heap.size := Nat.lt_of_lt_of_le z0 hz1; have hc2 : w2.cell? ⟨w.heap.size, 0, none⟩ = some (.int .i64 2) ∧ w2.cell? ⟨w.heap.size, 1, none⟩ = some (.int .i64 day) ∧ w2.cell? ⟨w.heap.size, 2, none⟩ = some (.int .i64 0) ∧ w2.cell? ⟨w.heap.size, 3, none⟩ = some (.int .i64 5) ∧ w2.cell? ⟨w.heap.size, 4, none⟩ = some (.int .i64 0) := ⟨(hb2.cell (p := ⟨w.heap.size, 0, none⟩) z1).trans c0, (hb2.cell (p := ⟨w.heap.size, 1, none⟩) z1).trans c1, (hb2.cell (p := ⟨w.heap.size, 2, none⟩) z1).trans c2, (hb2.cell (p := ⟨w.heap.size, 3, none⟩) z1).trans c3, (hb2.cell (p := ⟨w.heap.size, 4, none⟩) z1).trans c4⟩))
  have hbw2 : Below w.heap.size w w2 := (by repeat (first | exact Below.refl _ _ | refine bl_al ?_ _ | refine bl_dr ?_ | refine bl_dN ?_ _ | refine bl_tr ?_ (by assumption)))
  clear hc2 hb1 hb2 ht1 f0 f1 f2 f3 f4
  go_wp2_with fail
  refine (awake7_any _).mono ?_
  rintro e w3 ⟨rfl, hb3⟩
  go_wp2_with fail
  go_ret
  exact ⟨rfl, (by repeat (first | exact Below.refl _ _ | refine bl_al ?_ _ | refine bl_dr ?_ | refine bl_dN ?_ _ | refine bl_tr ?_ (by assumption)))⟩
set_option maxHeartbeats 800000 in
theorem evDays_2_late (day kind : Int) (hq : (IntKind.u64.wrap kind).tmod 6 = 1) (h : 2932896 < day) (w : World) : Calls Try.prog 8 #[.int .i64 day, .int .i64 kind] w (RetB (.bool true) w) := by
  have HE : Hid (rightE 0 [(0, false), (0, false)] 1 1 0 0 10957 2 day 0 5 0 = 10) := by
    have e : rightE 0 [(0, false), (0, false)] 1 1 0 0 10957 2 day 0 5 0 = if (decide (day < 10957) || decide (2932896 < day)) = true then 10 else 0 := by rfl
    show _ = _
    rw [e]
    simp only [show decide (2932896 < day) = true from by simpa using h, Bool.or_true]; rfl
  have d1 : decide (10957 ≤ day) = true := by simp; omega
  have d2 : decide (day ≤ 2932896) = false := by simp; omega
  go_enter Try.func8, Try.ntmps8
  go_wp2_with fail
  have f0 : (w.alloc (.cells #[.int .i64 2, .int .i64 day, .int .i64 0, .int .i64 5, .int .i64 0] 49)).cell? ⟨w.heap.size, 0, none⟩ = some (.int .i64 2) ∧ (w.alloc (.cells #[.int .i64 2, .int .i64 day, .int .i64 0, .int .i64 5, .int .i64 0] 49)).cell? ⟨w.heap.size, 1, none⟩ = some (.int .i64 day) ∧ (w.alloc (.cells #[.int .i64 2, .int .i64 day, .int .i64 0, .int .i64 5, .int .i64 0] 49)).cell? ⟨w.heap.size, 2, none⟩ = some (.int .i64 0) ∧ (w.alloc (.cells #[.int .i64 2, .int .i64 day, .int .i64 0, .int .i64 5, .int .i64 0] 49)).cell? ⟨w.heap.size, 3, none⟩ = some (.int .i64 5) ∧ (w.alloc (.cells #[.int .i64 2, .int .i64 day, .int .i64 0, .int .i64 5, .int .i64 0] 49)).cell? ⟨w.heap.size, 4, none⟩ = some (.int .i64 0) := by simp [go_sem]
  have b0 : Below w.heap.size w (w.alloc (.cells #[.int .i64 2, .int .i64 day, .int .i64 0, .int .i64 5, .int .i64 0] 49)) := (by repeat (first | exact Below.refl _ _ | refine bl_al ?_ _ | refine bl_dr ?_ | refine bl_dN ?_ _ | refine bl_tr ?_ (by assumption)))
  have z0 : w.heap.size < (w.alloc (.cells #[.int .i64 2, .int .i64 day, .int .i64 0, .int .i64 5, .int .i64 0] 49)).heap.size := by simp only [World.size_alloc]; omega
  generalize (w.alloc (.cells #[.int .i64 2, .int .i64 day, .int .i64 0, .int .i64 5, .int .i64 0] 49)) = W0 at f0 b0 z0 ⊢
  obtain ⟨f0, f1, f2, f3, f4⟩ := f0
  go_region_held3 (fun w' => w'.cell? ⟨w.heap.size, 0, none⟩ = some (.int .i64 2) ∧ w'.cell? ⟨w.heap.size, 1, none⟩ = some (.int .i64 day) ∧ w'.cell? ⟨w.heap.size, 2, none⟩ = some (.int .i64 0) ∧ w'.cell? ⟨w.heap.size, 3, none⟩ = some (.int .i64 5) ∧ w'.cell? ⟨w.heap.size, 4, none⟩ = some (.int .i64 0)) (first | assumption | (refine ⟨?_, ?_, ?_, ?_, ?_⟩ <;> (first | assumption | (simp [go_sem, f0, f1, f2, f3, f4]))))
    (first
      | (go_at_call 25; refine (terms7_any _).mono ?_; rintro e w1 ⟨v1, rfl, ht1, hb1⟩; have hc1 : w1.cell? ⟨w.heap.size, 0, none⟩ = some (.int .i64 2) ∧ w1.cell? ⟨w.heap.size, 1, none⟩ = some (.int .i64 day) ∧ w1.cell? ⟨w.heap.size, 2, none⟩ = some (.int .i64 0) ∧ w1.cell? ⟨w.heap.size, 3, none⟩ = some (.int .i64 5) ∧ w1.cell? ⟨w.heap.size, 4, none⟩ = some (.int .i64 0) := ⟨(hb1.cell (p := ⟨w.heap.size, 0, none⟩) z0).trans f0, (hb1.cell (p := ⟨w.heap.size, 1, none⟩) z0).trans f1, (hb1.cell (p := ⟨w.heap.size, 2, none⟩) z0).trans f2, (hb1.cell (p := ⟨w.heap.size, 3, none⟩) z0).trans f3, (hb1.cell (p := ⟨w.heap.size, 4, none⟩) z0).trans f4⟩)
      | (go_at_call 24; refine (evRight_any _ [(0, false), (0, false)] 0 1 1 0 0 10957 2 day 0 5 0 10 HE _ ht1).mono ?_; rintro e w2 ⟨rfl, hb2⟩; obtain ⟨c0, c1, c2, c3, c4⟩ := hc1; have hz1 := hb1.size; have z1 : w.heap.size < w1.heap.size := Nat.lt_of_lt_of_le z0 hz1; have hc2 : w2.cell? ⟨w.heap.size, 0, none⟩ = some (.int .i64 2) ∧ w2.cell? ⟨w.heap.size, 1, none⟩ = some (.int .i64 day) ∧ w2.cell? ⟨w.heap.size, 2, none⟩ = some (.int .i64 0) ∧ w2.cell? ⟨w.heap.size, 3, none⟩ = some (.int .i64 5) ∧ w2.cell? ⟨w.heap.size, 4, none⟩ = some (.int .i64 0) := ⟨(hb2.cell (p := ⟨w.heap.size, 0, none⟩) z1).trans c0, (hb2.cell (p := ⟨w.heap.size, 1, none⟩) z1).trans c1, (hb2.cell (p := ⟨w.heap.size, 2, none⟩) z1).trans c2, (hb2.cell (p := ⟨w.heap.size, 3, none⟩) z1).trans c3, (hb2.cell (p := ⟨w.heap.size, 4, none⟩) z1).trans c4⟩))
  have hbw2 : Below w.heap.size w w2 := (by repeat (first | exact Below.refl _ _ | refine bl_al ?_ _ | refine bl_dr ?_ | refine bl_dN ?_ _ | refine bl_tr ?_ (by assumption)))
  clear hc2 hb1 hb2 ht1 f0 f1 f2 f3 f4
  go_wp2_with fail
  refine (awake7_any _).mono ?_
  rintro e w3 ⟨rfl, hb3⟩
  go_wp2_with fail
  go_ret
  exact ⟨rfl, (by repeat (first | exact Below.refl _ _ | refine bl_al ?_ _ | refine bl_dr ?_ | refine bl_dN ?_ _ | refine bl_tr ?_ (by assumption)))⟩
set_option maxHeartbeats 800000 in
theorem evDays_2_good (day kind : Int) (hq : (IntKind.u64.wrap kind).tmod 6 = 1) (h : 10957 ≤ day ∧ day ≤ 2932896) (w : World) : Calls Try.prog 8 #[.int .i64 day, .int .i64 kind] w (RetB (.bool true) w) := by
  have HE : Hid (rightE 0 [(0, false), (0, false)] 1 1 0 0 10957 2 day 0 5 0 = 0) := by
    have e : rightE 0 [(0, false), (0, false)] 1 1 0 0 10957 2 day 0 5 0 = if (decide (day < 10957) || decide (2932896 < day)) = true then 10 else 0 := by rfl
    show _ = _
    rw [e]
    simp only [show decide (day < 10957) = false from by simp; omega, show decide (2932896 < day) = false from by simp; omega]; rfl
  have d1 : decide (10957 ≤ day) = true := by simp; omega
  have d2 : decide (day ≤ 2932896) = true := by simp; omega
  go_enter Try.func8, Try.ntmps8
  go_wp2_with fail
  have f0 : (w.alloc (.cells #[.int .i64 2, .int .i64 day, .int .i64 0, .int .i64 5, .int .i64 0] 49)).cell? ⟨w.heap.size, 0, none⟩ = some (.int .i64 2) ∧ (w.alloc (.cells #[.int .i64 2, .int .i64 day, .int .i64 0, .int .i64 5, .int .i64 0] 49)).cell? ⟨w.heap.size, 1, none⟩ = some (.int .i64 day) ∧ (w.alloc (.cells #[.int .i64 2, .int .i64 day, .int .i64 0, .int .i64 5, .int .i64 0] 49)).cell? ⟨w.heap.size, 2, none⟩ = some (.int .i64 0) ∧ (w.alloc (.cells #[.int .i64 2, .int .i64 day, .int .i64 0, .int .i64 5, .int .i64 0] 49)).cell? ⟨w.heap.size, 3, none⟩ = some (.int .i64 5) ∧ (w.alloc (.cells #[.int .i64 2, .int .i64 day, .int .i64 0, .int .i64 5, .int .i64 0] 49)).cell? ⟨w.heap.size, 4, none⟩ = some (.int .i64 0) := by simp [go_sem]
  have b0 : Below w.heap.size w (w.alloc (.cells #[.int .i64 2, .int .i64 day, .int .i64 0, .int .i64 5, .int .i64 0] 49)) := (by repeat (first | exact Below.refl _ _ | refine bl_al ?_ _ | refine bl_dr ?_ | refine bl_dN ?_ _ | refine bl_tr ?_ (by assumption)))
  have z0 : w.heap.size < (w.alloc (.cells #[.int .i64 2, .int .i64 day, .int .i64 0, .int .i64 5, .int .i64 0] 49)).heap.size := by simp only [World.size_alloc]; omega
  generalize (w.alloc (.cells #[.int .i64 2, .int .i64 day, .int .i64 0, .int .i64 5, .int .i64 0] 49)) = W0 at f0 b0 z0 ⊢
  obtain ⟨f0, f1, f2, f3, f4⟩ := f0
  go_region_held3 (fun w' => w'.cell? ⟨w.heap.size, 0, none⟩ = some (.int .i64 2) ∧ w'.cell? ⟨w.heap.size, 1, none⟩ = some (.int .i64 day) ∧ w'.cell? ⟨w.heap.size, 2, none⟩ = some (.int .i64 0) ∧ w'.cell? ⟨w.heap.size, 3, none⟩ = some (.int .i64 5) ∧ w'.cell? ⟨w.heap.size, 4, none⟩ = some (.int .i64 0)) (first | assumption | (refine ⟨?_, ?_, ?_, ?_, ?_⟩ <;> (first | assumption | (simp [go_sem, f0, f1, f2, f3, f4]))))
    (first
      | (go_at_call 25; refine (terms7_any _).mono ?_; rintro e w1 ⟨v1, rfl, ht1, hb1⟩; have hc1 : w1.cell? ⟨w.heap.size, 0, none⟩ = some (.int .i64 2) ∧ w1.cell? ⟨w.heap.size, 1, none⟩ = some (.int .i64 day) ∧ w1.cell? ⟨w.heap.size, 2, none⟩ = some (.int .i64 0) ∧ w1.cell? ⟨w.heap.size, 3, none⟩ = some (.int .i64 5) ∧ w1.cell? ⟨w.heap.size, 4, none⟩ = some (.int .i64 0) := ⟨(hb1.cell (p := ⟨w.heap.size, 0, none⟩) z0).trans f0, (hb1.cell (p := ⟨w.heap.size, 1, none⟩) z0).trans f1, (hb1.cell (p := ⟨w.heap.size, 2, none⟩) z0).trans f2, (hb1.cell (p := ⟨w.heap.size, 3, none⟩) z0).trans f3, (hb1.cell (p := ⟨w.heap.size, 4, none⟩) z0).trans f4⟩)
      | (go_at_call 24; refine (evRight_any _ [(0, false), (0, false)] 0 1 1 0 0 10957 2 day 0 5 0 0 HE _ ht1).mono ?_; rintro e w2 ⟨rfl, hb2⟩; obtain ⟨c0, c1, c2, c3, c4⟩ := hc1; have hz1 := hb1.size; have z1 : w.heap.size < w1.heap.size := Nat.lt_of_lt_of_le z0 hz1; have hc2 : w2.cell? ⟨w.heap.size, 0, none⟩ = some (.int .i64 2) ∧ w2.cell? ⟨w.heap.size, 1, none⟩ = some (.int .i64 day) ∧ w2.cell? ⟨w.heap.size, 2, none⟩ = some (.int .i64 0) ∧ w2.cell? ⟨w.heap.size, 3, none⟩ = some (.int .i64 5) ∧ w2.cell? ⟨w.heap.size, 4, none⟩ = some (.int .i64 0) := ⟨(hb2.cell (p := ⟨w.heap.size, 0, none⟩) z1).trans c0, (hb2.cell (p := ⟨w.heap.size, 1, none⟩) z1).trans c1, (hb2.cell (p := ⟨w.heap.size, 2, none⟩) z1).trans c2, (hb2.cell (p := ⟨w.heap.size, 3, none⟩) z1).trans c3, (hb2.cell (p := ⟨w.heap.size, 4, none⟩) z1).trans c4⟩))
  have hbw2 : Below w.heap.size w w2 := (by repeat (first | exact Below.refl _ _ | refine bl_al ?_ _ | refine bl_dr ?_ | refine bl_dN ?_ _ | refine bl_tr ?_ (by assumption)))
  clear hc2 hb1 hb2 ht1 f0 f1 f2 f3 f4
  go_wp2_with fail
  refine (awake7_any _).mono ?_
  rintro e w3 ⟨rfl, hb3⟩
  go_wp2_with fail
  go_ret
  exact ⟨rfl, (by repeat (first | exact Below.refl _ _ | refine bl_al ?_ _ | refine bl_dr ?_ | refine bl_dN ?_ _ | refine bl_tr ?_ (by assumption)))⟩
set_option maxHeartbeats 800000 in
theorem evDays_3_early (day kind : Int) (hq : (IntKind.u64.wrap kind).tmod 6 = 2) (h : day < 10957) (w : World) : Calls Try.prog 8 #[.int .i64 day, .int .i64 kind] w (RetB (.bool true) w) := by
  have HE : Hid (rightE 0 [(0, false), (0, false)] 1 1 0 0 10957 3 day 1 5 0 = 10) := by
    have e : rightE 0 [(0, false), (0, false)] 1 1 0 0 10957 3 day 1 5 0 = if (decide (day < 10957) || decide (2932896 < day)) = true then 10 else 0 := by rfl
    show _ = _
    rw [e]
    simp only [show decide (day < 10957) = true from by simpa using h]; rfl
  have d1 : decide (10957 ≤ day) = false := by simp; omega
  go_enter Try.func8, Try.ntmps8
  go_wp2_with fail
  have f0 : (w.alloc (.cells #[.int .i64 3, .int .i64 day, .int .i64 1, .int .i64 5, .int .i64 0] 49)).cell? ⟨w.heap.size, 0, none⟩ = some (.int .i64 3) ∧ (w.alloc (.cells #[.int .i64 3, .int .i64 day, .int .i64 1, .int .i64 5, .int .i64 0] 49)).cell? ⟨w.heap.size, 1, none⟩ = some (.int .i64 day) ∧ (w.alloc (.cells #[.int .i64 3, .int .i64 day, .int .i64 1, .int .i64 5, .int .i64 0] 49)).cell? ⟨w.heap.size, 2, none⟩ = some (.int .i64 1) ∧ (w.alloc (.cells #[.int .i64 3, .int .i64 day, .int .i64 1, .int .i64 5, .int .i64 0] 49)).cell? ⟨w.heap.size, 3, none⟩ = some (.int .i64 5) ∧ (w.alloc (.cells #[.int .i64 3, .int .i64 day, .int .i64 1, .int .i64 5, .int .i64 0] 49)).cell? ⟨w.heap.size, 4, none⟩ = some (.int .i64 0) := by simp [go_sem]
  have b0 : Below w.heap.size w (w.alloc (.cells #[.int .i64 3, .int .i64 day, .int .i64 1, .int .i64 5, .int .i64 0] 49)) := (by repeat (first | exact Below.refl _ _ | refine bl_al ?_ _ | refine bl_dr ?_ | refine bl_dN ?_ _ | refine bl_tr ?_ (by assumption)))
  have z0 : w.heap.size < (w.alloc (.cells #[.int .i64 3, .int .i64 day, .int .i64 1, .int .i64 5, .int .i64 0] 49)).heap.size := by simp only [World.size_alloc]; omega
  generalize (w.alloc (.cells #[.int .i64 3, .int .i64 day, .int .i64 1, .int .i64 5, .int .i64 0] 49)) = W0 at f0 b0 z0 ⊢
  obtain ⟨f0, f1, f2, f3, f4⟩ := f0
  go_region_held3 (fun w' => w'.cell? ⟨w.heap.size, 0, none⟩ = some (.int .i64 3) ∧ w'.cell? ⟨w.heap.size, 1, none⟩ = some (.int .i64 day) ∧ w'.cell? ⟨w.heap.size, 2, none⟩ = some (.int .i64 1) ∧ w'.cell? ⟨w.heap.size, 3, none⟩ = some (.int .i64 5) ∧ w'.cell? ⟨w.heap.size, 4, none⟩ = some (.int .i64 0)) (first | assumption | (refine ⟨?_, ?_, ?_, ?_, ?_⟩ <;> (first | assumption | (simp [go_sem, f0, f1, f2, f3, f4]))))
    (first
      | (go_at_call 25; refine (terms7_any _).mono ?_; rintro e w1 ⟨v1, rfl, ht1, hb1⟩; have hc1 : w1.cell? ⟨w.heap.size, 0, none⟩ = some (.int .i64 3) ∧ w1.cell? ⟨w.heap.size, 1, none⟩ = some (.int .i64 day) ∧ w1.cell? ⟨w.heap.size, 2, none⟩ = some (.int .i64 1) ∧ w1.cell? ⟨w.heap.size, 3, none⟩ = some (.int .i64 5) ∧ w1.cell? ⟨w.heap.size, 4, none⟩ = some (.int .i64 0) := ⟨(hb1.cell (p := ⟨w.heap.size, 0, none⟩) z0).trans f0, (hb1.cell (p := ⟨w.heap.size, 1, none⟩) z0).trans f1, (hb1.cell (p := ⟨w.heap.size, 2, none⟩) z0).trans f2, (hb1.cell (p := ⟨w.heap.size, 3, none⟩) z0).trans f3, (hb1.cell (p := ⟨w.heap.size, 4, none⟩) z0).trans f4⟩)
      | (go_at_call 24; refine (evRight_any _ [(0, false), (0, false)] 0 1 1 0 0 10957 3 day 1 5 0 10 HE _ ht1).mono ?_; rintro e w2 ⟨rfl, hb2⟩; obtain ⟨c0, c1, c2, c3, c4⟩ := hc1; have hz1 := hb1.size; have z1 : w.heap.size < w1.heap.size := Nat.lt_of_lt_of_le z0 hz1; have hc2 : w2.cell? ⟨w.heap.size, 0, none⟩ = some (.int .i64 3) ∧ w2.cell? ⟨w.heap.size, 1, none⟩ = some (.int .i64 day) ∧ w2.cell? ⟨w.heap.size, 2, none⟩ = some (.int .i64 1) ∧ w2.cell? ⟨w.heap.size, 3, none⟩ = some (.int .i64 5) ∧ w2.cell? ⟨w.heap.size, 4, none⟩ = some (.int .i64 0) := ⟨(hb2.cell (p := ⟨w.heap.size, 0, none⟩) z1).trans c0, (hb2.cell (p := ⟨w.heap.size, 1, none⟩) z1).trans c1, (hb2.cell (p := ⟨w.heap.size, 2, none⟩) z1).trans c2, (hb2.cell (p := ⟨w.heap.size, 3, none⟩) z1).trans c3, (hb2.cell (p := ⟨w.heap.size, 4, none⟩) z1).trans c4⟩))
  have hbw2 : Below w.heap.size w w2 := (by repeat (first | exact Below.refl _ _ | refine bl_al ?_ _ | refine bl_dr ?_ | refine bl_dN ?_ _ | refine bl_tr ?_ (by assumption)))
  clear hc2 hb1 hb2 ht1 f0 f1 f2 f3 f4
  go_wp2_with fail
  refine (awake7_any _).mono ?_
  rintro e w3 ⟨rfl, hb3⟩
  go_wp2_with fail
  go_ret
  exact ⟨rfl, (by repeat (first | exact Below.refl _ _ | refine bl_al ?_ _ | refine bl_dr ?_ | refine bl_dN ?_ _ | refine bl_tr ?_ (by assumption)))⟩
set_option maxHeartbeats 800000 in
theorem evDays_3_late (day kind : Int) (hq : (IntKind.u64.wrap kind).tmod 6 = 2) (h : 2932896 < day) (w : World) : Calls Try.prog 8 #[.int .i64 day, .int .i64 kind] w (RetB (.bool true) w) := by
  have HE : Hid (rightE 0 [(0, false), (0, false)] 1 1 0 0 10957 3 day 1 5 0 = 10) := by
    have e : rightE 0 [(0, false), (0, false)] 1 1 0 0 10957 3 day 1 5 0 = if (decide (day < 10957) || decide (2932896 < day)) = true then 10 else 0 := by rfl
    show _ = _
    rw [e]
    simp only [show decide (2932896 < day) = true from by simpa using h, Bool.or_true]; rfl
  have d1 : decide (10957 ≤ day) = true := by simp; omega
  have d2 : decide (day ≤ 2932896) = false := by simp; omega
  go_enter Try.func8, Try.ntmps8
  go_wp2_with fail
  have f0 : (w.alloc (.cells #[.int .i64 3, .int .i64 day, .int .i64 1, .int .i64 5, .int .i64 0] 49)).cell? ⟨w.heap.size, 0, none⟩ = some (.int .i64 3) ∧ (w.alloc (.cells #[.int .i64 3, .int .i64 day, .int .i64 1, .int .i64 5, .int .i64 0] 49)).cell? ⟨w.heap.size, 1, none⟩ = some (.int .i64 day) ∧ (w.alloc (.cells #[.int .i64 3, .int .i64 day, .int .i64 1, .int .i64 5, .int .i64 0] 49)).cell? ⟨w.heap.size, 2, none⟩ = some (.int .i64 1) ∧ (w.alloc (.cells #[.int .i64 3, .int .i64 day, .int .i64 1, .int .i64 5, .int .i64 0] 49)).cell? ⟨w.heap.size, 3, none⟩ = some (.int .i64 5) ∧ (w.alloc (.cells #[.int .i64 3, .int .i64 day, .int .i64 1, .int .i64 5, .int .i64 0] 49)).cell? ⟨w.heap.size, 4, none⟩ = some (.int .i64 0) := by simp [go_sem]
  have b0 : Below w.heap.size w (w.alloc (.cells #[.int .i64 3, .int .i64 day, .int .i64 1, .int .i64 5, .int .i64 0] 49)) := (by repeat (first | exact Below.refl _ _ | refine bl_al ?_ _ | refine bl_dr ?_ | refine bl_dN ?_ _ | refine bl_tr ?_ (by assumption)))
  have z0 : w.heap.size < (w.alloc (.cells #[.int .i64 3, .int .i64 day, .int .i64 1, .int .i64 5, .int .i64 0] 49)).heap.size := by simp only [World.size_alloc]; omega
  generalize (w.alloc (.cells #[.int .i64 3, .int .i64 day, .int .i64 1, .int .i64 5, .int .i64 0] 49)) = W0 at f0 b0 z0 ⊢
  obtain ⟨f0, f1, f2, f3, f4⟩ := f0
  go_region_held3 (fun w' => w'.cell? ⟨w.heap.size, 0, none⟩ = some (.int .i64 3) ∧ w'.cell? ⟨w.heap.size, 1, none⟩ = some (.int .i64 day) ∧ w'.cell? ⟨w.heap.size, 2, none⟩ = some (.int .i64 1) ∧ w'.cell? ⟨w.heap.size, 3, none⟩ = some (.int .i64 5) ∧ w'.cell? ⟨w.heap.size, 4, none⟩ = some (.int .i64 0)) (first | assumption | (refine ⟨?_, ?_, ?_, ?_, ?_⟩ <;> (first | assumption | (simp [go_sem, f0, f1, f2, f3, f4]))))
    (first
      | (go_at_call 25; refine (terms7_any _).mono ?_; rintro e w1 ⟨v1, rfl, ht1, hb1⟩; have hc1 : w1.cell? ⟨w.heap.size, 0, none⟩ = some (.int .i64 3) ∧ w1.cell? ⟨w.heap.size, 1, none⟩ = some (.int .i64 day) ∧ w1.cell? ⟨w.heap.size, 2, none⟩ = some (.int .i64 1) ∧ w1.cell? ⟨w.heap.size, 3, none⟩ = some (.int .i64 5) ∧ w1.cell? ⟨w.heap.size, 4, none⟩ = some (.int .i64 0) := ⟨(hb1.cell (p := ⟨w.heap.size, 0, none⟩) z0).trans f0, (hb1.cell (p := ⟨w.heap.size, 1, none⟩) z0).trans f1, (hb1.cell (p := ⟨w.heap.size, 2, none⟩) z0).trans f2, (hb1.cell (p := ⟨w.heap.size, 3, none⟩) z0).trans f3, (hb1.cell (p := ⟨w.heap.size, 4, none⟩) z0).trans f4⟩)
      | (go_at_call 24; refine (evRight_any _ [(0, false), (0, false)] 0 1 1 0 0 10957 3 day 1 5 0 10 HE _ ht1).mono ?_; rintro e w2 ⟨rfl, hb2⟩; obtain ⟨c0, c1, c2, c3, c4⟩ := hc1; have hz1 := hb1.size; have z1 : w.heap.size < w1.heap.size := Nat.lt_of_lt_of_le z0 hz1; have hc2 : w2.cell? ⟨w.heap.size, 0, none⟩ = some (.int .i64 3) ∧ w2.cell? ⟨w.heap.size, 1, none⟩ = some (.int .i64 day) ∧ w2.cell? ⟨w.heap.size, 2, none⟩ = some (.int .i64 1) ∧ w2.cell? ⟨w.heap.size, 3, none⟩ = some (.int .i64 5) ∧ w2.cell? ⟨w.heap.size, 4, none⟩ = some (.int .i64 0) := ⟨(hb2.cell (p := ⟨w.heap.size, 0, none⟩) z1).trans c0, (hb2.cell (p := ⟨w.heap.size, 1, none⟩) z1).trans c1, (hb2.cell (p := ⟨w.heap.size, 2, none⟩) z1).trans c2, (hb2.cell (p := ⟨w.heap.size, 3, none⟩) z1).trans c3, (hb2.cell (p := ⟨w.heap.size, 4, none⟩) z1).trans c4⟩))
  have hbw2 : Below w.heap.size w w2 := (by repeat (first | exact Below.refl _ _ | refine bl_al ?_ _ | refine bl_dr ?_ | refine bl_dN ?_ _ | refine bl_tr ?_ (by assumption)))
  clear hc2 hb1 hb2 ht1 f0 f1 f2 f3 f4
  go_wp2_with fail
  refine (awake7_any _).mono ?_
  rintro e w3 ⟨rfl, hb3⟩
  go_wp2_with fail
  go_ret
  exact ⟨rfl, (by repeat (first | exact Below.refl _ _ | refine bl_al ?_ _ | refine bl_dr ?_ | refine bl_dN ?_ _ | refine bl_tr ?_ (by assumption)))⟩
set_option maxHeartbeats 800000 in
theorem evDays_3_good (day kind : Int) (hq : (IntKind.u64.wrap kind).tmod 6 = 2) (h : 10957 ≤ day ∧ day ≤ 2932896) (w : World) : Calls Try.prog 8 #[.int .i64 day, .int .i64 kind] w (RetB (.bool true) w) := by
  have HE : Hid (rightE 0 [(0, false), (0, false)] 1 1 0 0 10957 3 day 1 5 0 = 0) := by
    have e : rightE 0 [(0, false), (0, false)] 1 1 0 0 10957 3 day 1 5 0 = if (decide (day < 10957) || decide (2932896 < day)) = true then 10 else 0 := by rfl
    show _ = _
    rw [e]
    simp only [show decide (day < 10957) = false from by simp; omega, show decide (2932896 < day) = false from by simp; omega]; rfl
  have d1 : decide (10957 ≤ day) = true := by simp; omega
  have d2 : decide (day ≤ 2932896) = true := by simp; omega
  go_enter Try.func8, Try.ntmps8
  go_wp2_with fail
  have f0 : (w.alloc (.cells #[.int .i64 3, .int .i64 day, .int .i64 1, .int .i64 5, .int .i64 0] 49)).cell? ⟨w.heap.size, 0, none⟩ = some (.int .i64 3) ∧ (w.alloc (.cells #[.int .i64 3, .int .i64 day, .int .i64 1, .int .i64 5, .int .i64 0] 49)).cell? ⟨w.heap.size, 1, none⟩ = some (.int .i64 day) ∧ (w.alloc (.cells #[.int .i64 3, .int .i64 day, .int .i64 1, .int .i64 5, .int .i64 0] 49)).cell? ⟨w.heap.size, 2, none⟩ = some (.int .i64 1) ∧ (w.alloc (.cells #[.int .i64 3, .int .i64 day, .int .i64 1, .int .i64 5, .int .i64 0] 49)).cell? ⟨w.heap.size, 3, none⟩ = some (.int .i64 5) ∧ (w.alloc (.cells #[.int .i64 3, .int .i64 day, .int .i64 1, .int .i64 5, .int .i64 0] 49)).cell? ⟨w.heap.size, 4, none⟩ = some (.int .i64 0) := by simp [go_sem]
  have b0 : Below w.heap.size w (w.alloc (.cells #[.int .i64 3, .int .i64 day, .int .i64 1, .int .i64 5, .int .i64 0] 49)) := (by repeat (first | exact Below.refl _ _ | refine bl_al ?_ _ | refine bl_dr ?_ | refine bl_dN ?_ _ | refine bl_tr ?_ (by assumption)))
  have z0 : w.heap.size < (w.alloc (.cells #[.int .i64 3, .int .i64 day, .int .i64 1, .int .i64 5, .int .i64 0] 49)).heap.size := by simp only [World.size_alloc]; omega
  generalize (w.alloc (.cells #[.int .i64 3, .int .i64 day, .int .i64 1, .int .i64 5, .int .i64 0] 49)) = W0 at f0 b0 z0 ⊢
  obtain ⟨f0, f1, f2, f3, f4⟩ := f0
  go_region_held3 (fun w' => w'.cell? ⟨w.heap.size, 0, none⟩ = some (.int .i64 3) ∧ w'.cell? ⟨w.heap.size, 1, none⟩ = some (.int .i64 day) ∧ w'.cell? ⟨w.heap.size, 2, none⟩ = some (.int .i64 1) ∧ w'.cell? ⟨w.heap.size, 3, none⟩ = some (.int .i64 5) ∧ w'.cell? ⟨w.heap.size, 4, none⟩ = some (.int .i64 0)) (first | assumption | (refine ⟨?_, ?_, ?_, ?_, ?_⟩ <;> (first | assumption | (simp [go_sem, f0, f1, f2, f3, f4]))))
    (first
      | (go_at_call 25; refine (terms7_any _).mono ?_; rintro e w1 ⟨v1, rfl, ht1, hb1⟩; have hc1 : w1.cell? ⟨w.heap.size, 0, none⟩ = some (.int .i64 3) ∧ w1.cell? ⟨w.heap.size, 1, none⟩ = some (.int .i64 day) ∧ w1.cell? ⟨w.heap.size, 2, none⟩ = some (.int .i64 1) ∧ w1.cell? ⟨w.heap.size, 3, none⟩ = some (.int .i64 5) ∧ w1.cell? ⟨w.heap.size, 4, none⟩ = some (.int .i64 0) := ⟨(hb1.cell (p := ⟨w.heap.size, 0, none⟩) z0).trans f0, (hb1.cell (p := ⟨w.heap.size, 1, none⟩) z0).trans f1, (hb1.cell (p := ⟨w.heap.size, 2, none⟩) z0).trans f2, (hb1.cell (p := ⟨w.heap.size, 3, none⟩) z0).trans f3, (hb1.cell (p := ⟨w.heap.size, 4, none⟩) z0).trans f4⟩)
      | (go_at_call 24; refine (evRight_any _ [(0, false), (0, false)] 0 1 1 0 0 10957 3 day 1 5 0 0 HE _ ht1).mono ?_; rintro e w2 ⟨rfl, hb2⟩; obtain ⟨c0, c1, c2, c3, c4⟩ := hc1; have hz1 := hb1.size; have z1 : w.heap.size < w1.heap.size := Nat.lt_of_lt_of_le z0 hz1; have hc2 : w2.cell? ⟨w.heap.size, 0, none⟩ = some (.int .i64 3) ∧ w2.cell? ⟨w.heap.size, 1, none⟩ = some (.int .i64 day) ∧ w2.cell? ⟨w.heap.size, 2, none⟩ = some (.int .i64 1) ∧ w2.cell? ⟨w.heap.size, 3, none⟩ = some (.int .i64 5) ∧ w2.cell? ⟨w.heap.size, 4, none⟩ = some (.int .i64 0) := ⟨(hb2.cell (p := ⟨w.heap.size, 0, none⟩) z1).trans c0, (hb2.cell (p := ⟨w.heap.size, 1, none⟩) z1).trans c1, (hb2.cell (p := ⟨w.heap.size, 2, none⟩) z1).trans c2, (hb2.cell (p := ⟨w.heap.size, 3, none⟩) z1).trans c3, (hb2.cell (p := ⟨w.heap.size, 4, none⟩) z1).trans c4⟩))
  have hbw2 : Below w.heap.size w w2 := (by repeat (first | exact Below.refl _ _ | refine bl_al ?_ _ | refine bl_dr ?_ | refine bl_dN ?_ _ | refine bl_tr ?_ (by assumption)))
  clear hc2 hb1 hb2 ht1 f0 f1 f2 f3 f4
  go_wp2_with fail
  refine (awake7_any _).mono ?_
  rintro e w3 ⟨rfl, hb3⟩
  go_wp2_with fail
  go_ret
  exact ⟨rfl, (by repeat (first | exact Below.refl _ _ | refine bl_al ?_ _ | refine bl_dr ?_ | refine bl_dN ?_ _ | refine bl_tr ?_ (by assumption)))⟩
set_option maxHeartbeats 800000 in
theorem evDays_4_early (day kind : Int) (hq : (IntKind.u64.wrap kind).tmod 6 = 3) (h : day < 10957) (w : World) : Calls Try.prog 8 #[.int .i64 day, .int .i64 kind] w (RetB (.bool true) w) := by
  have HE : Hid (rightE 0 [(0, false), (0, false)] 1 1 0 0 10957 4 day 1 5 1 = 10) := by
    have e : rightE 0 [(0, false), (0, false)] 1 1 0 0 10957 4 day 1 5 1 = if (decide (day < 10957) || decide (2932896 < day)) = true then 10 else 0 := by rfl
    show _ = _
    rw [e]
    simp only [show decide (day < 10957) = true from by simpa using h]; rfl
  have d1 : decide (10957 ≤ day) = false := by simp; omega
  go_enter Try.func8, Try.ntmps8
  go_wp2_with fail
  have f0 : (w.alloc (.cells #[.int .i64 4, .int .i64 day, .int .i64 1, .int .i64 5, .int .i64 1] 49)).cell? ⟨w.heap.size, 0, none⟩ = some (.int .i64 4) ∧ (w.alloc (.cells #[.int .i64 4, .int .i64 day, .int .i64 1, .int .i64 5, .int .i64 1] 49)).cell? ⟨w.heap.size, 1, none⟩ = some (.int .i64 day) ∧ (w.alloc (.cells #[.int .i64 4, .int .i64 day, .int .i64 1, .int .i64 5, .int .i64 1] 49)).cell? ⟨w.heap.size, 2, none⟩ = some (.int .i64 1) ∧ (w.alloc (.cells #[.int .i64 4, .int .i64 day, .int .i64 1, .int .i64 5, .int .i64 1] 49)).cell? ⟨w.heap.size, 3, none⟩ = some (.int .i64 5) ∧ (w.alloc (.cells #[.int .i64 4, .int .i64 day, .int .i64 1, .int .i64 5, .int .i64 1] 49)).cell? ⟨w.heap.size, 4, none⟩ = some (.int .i64 1) := by simp [go_sem]
  have b0 : Below w.heap.size w (w.alloc (.cells #[.int .i64 4, .int .i64 day, .int .i64 1, .int .i64 5, .int .i64 1] 49)) := (by repeat (first | exact Below.refl _ _ | refine bl_al ?_ _ | refine bl_dr ?_ | refine bl_dN ?_ _ | refine bl_tr ?_ (by assumption)))
  have z0 : w.heap.size < (w.alloc (.cells #[.int .i64 4, .int .i64 day, .int .i64 1, .int .i64 5, .int .i64 1] 49)).heap.size := by simp only [World.size_alloc]; omega
  generalize (w.alloc (.cells #[.int .i64 4, .int .i64 day, .int .i64 1, .int .i64 5, .int .i64 1] 49)) = W0 at f0 b0 z0 ⊢
  obtain ⟨f0, f1, f2, f3, f4⟩ := f0
  go_region_held3 (fun w' => w'.cell? ⟨w.heap.size, 0, none⟩ = some (.int .i64 4) ∧ w'.cell? ⟨w.heap.size, 1, none⟩ = some (.int .i64 day) ∧ w'.cell? ⟨w.heap.size, 2, none⟩ = some (.int .i64 1) ∧ w'.cell? ⟨w.heap.size, 3, none⟩ = some (.int .i64 5) ∧ w'.cell? ⟨w.heap.size, 4, none⟩ = some (.int .i64 1)) (first | assumption | (refine ⟨?_, ?_, ?_, ?_, ?_⟩ <;> (first | assumption | (simp [go_sem, f0, f1, f2, f3, f4]))))
    (first
      | (go_at_call 25; refine (terms7_any _).mono ?_; rintro e w1 ⟨v1, rfl, ht1, hb1⟩; have hc1 : w1.cell? ⟨w.heap.size, 0, none⟩ = some (.int .i64 4) ∧ w1.cell? ⟨w.heap.size, 1, none⟩ = some (.int .i64 day) ∧ w1.cell? ⟨w.heap.size, 2, none⟩ = some (.int .i64 1) ∧ w1.cell? ⟨w.heap.size, 3, none⟩ = some (.int .i64 5) ∧ w1.cell? ⟨w.heap.size, 4, none⟩ = some (.int .i64 1) := ⟨(hb1.cell (p := ⟨w.heap.size, 0, none⟩) z0).trans f0, (hb1.cell (p := ⟨w.heap.size, 1, none⟩) z0).trans f1, (hb1.cell (p := ⟨w.heap.size, 2, none⟩) z0).trans f2, (hb1.cell (p := ⟨w.heap.size, 3, none⟩) z0).trans f3, (hb1.cell (p := ⟨w.heap.size, 4, none⟩) z0).trans f4⟩)
      | (go_at_call 24; refine (evRight_any _ [(0, false), (0, false)] 0 1 1 0 0 10957 4 day 1 5 1 10 HE _ ht1).mono ?_; rintro e w2 ⟨rfl, hb2⟩; obtain ⟨c0, c1, c2, c3, c4⟩ := hc1; have hz1 := hb1.size; have z1 : w.heap.size < w1.heap.size := Nat.lt_of_lt_of_le z0 hz1; have hc2 : w2.cell? ⟨w.heap.size, 0, none⟩ = some (.int .i64 4) ∧ w2.cell? ⟨w.heap.size, 1, none⟩ = some (.int .i64 day) ∧ w2.cell? ⟨w.heap.size, 2, none⟩ = some (.int .i64 1) ∧ w2.cell? ⟨w.heap.size, 3, none⟩ = some (.int .i64 5) ∧ w2.cell? ⟨w.heap.size, 4, none⟩ = some (.int .i64 1) := ⟨(hb2.cell (p := ⟨w.heap.size, 0, none⟩) z1).trans c0, (hb2.cell (p := ⟨w.heap.size, 1, none⟩) z1).trans c1, (hb2.cell (p := ⟨w.heap.size, 2, none⟩) z1).trans c2, (hb2.cell (p := ⟨w.heap.size, 3, none⟩) z1).trans c3, (hb2.cell (p := ⟨w.heap.size, 4, none⟩) z1).trans c4⟩))
  have hbw2 : Below w.heap.size w w2 := (by repeat (first | exact Below.refl _ _ | refine bl_al ?_ _ | refine bl_dr ?_ | refine bl_dN ?_ _ | refine bl_tr ?_ (by assumption)))
  clear hc2 hb1 hb2 ht1 f0 f1 f2 f3 f4
  go_wp2_with fail
  refine (awake7_any _).mono ?_
  rintro e w3 ⟨rfl, hb3⟩
  go_wp2_with fail
  go_ret
  exact ⟨rfl, (by repeat (first | exact Below.refl _ _ | refine bl_al ?_ _ | refine bl_dr ?_ | refine bl_dN ?_ _ | refine bl_tr ?_ (by assumption)))⟩
set_option maxHeartbeats 800000 in
theorem evDays_4_late (day kind : Int) (hq : (IntKind.u64.wrap kind).tmod 6 = 3) (h : 2932896 < day) (w : World) : Calls Try.prog 8 #[.int .i64 day, .int .i64 kind] w (RetB (.bool true) w) := by
  have HE : Hid (rightE 0 [(0, false), (0, false)] 1 1 0 0 10957 4 day 1 5 1 = 10) := by
    have e : rightE 0 [(0, false), (0, false)] 1 1 0 0 10957 4 day 1 5 1 = if (decide (day < 10957) || decide (2932896 < day)) = true then 10 else 0 := by rfl
    show _ = _
    rw [e]
    simp only [show decide (2932896 < day) = true from by simpa using h, Bool.or_true]; rfl
  have d1 : decide (10957 ≤ day) = true := by simp; omega
  have d2 : decide (day ≤ 2932896) = false := by simp; omega
  go_enter Try.func8, Try.ntmps8
  go_wp2_with fail
  have f0 : (w.alloc (.cells #[.int .i64 4, .int .i64 day, .int .i64 1, .int .i64 5, .int .i64 1] 49)).cell? ⟨w.heap.size, 0, none⟩ = some (.int .i64 4) ∧ (w.alloc (.cells #[.int .i64 4, .int .i64 day, .int .i64 1, .int .i64 5, .int .i64 1] 49)).cell? ⟨w.heap.size, 1, none⟩ = some (.int .i64 day) ∧ (w.alloc (.cells #[.int .i64 4, .int .i64 day, .int .i64 1, .int .i64 5, .int .i64 1] 49)).cell? ⟨w.heap.size, 2, none⟩ = some (.int .i64 1) ∧ (w.alloc (.cells #[.int .i64 4, .int .i64 day, .int .i64 1, .int .i64 5, .int .i64 1] 49)).cell? ⟨w.heap.size, 3, none⟩ = some (.int .i64 5) ∧ (w.alloc (.cells #[.int .i64 4, .int .i64 day, .int .i64 1, .int .i64 5, .int .i64 1] 49)).cell? ⟨w.heap.size, 4, none⟩ = some (.int .i64 1) := by simp [go_sem]
  have b0 : Below w.heap.size w (w.alloc (.cells #[.int .i64 4, .int .i64 day, .int .i64 1, .int .i64 5, .int .i64 1] 49)) := (by repeat (first | exact Below.refl _ _ | refine bl_al ?_ _ | refine bl_dr ?_ | refine bl_dN ?_ _ | refine bl_tr ?_ (by assumption)))
  have z0 : w.heap.size < (w.alloc (.cells #[.int .i64 4, .int .i64 day, .int .i64 1, .int .i64 5, .int .i64 1] 49)).heap.size := by simp only [World.size_alloc]; omega
  generalize (w.alloc (.cells #[.int .i64 4, .int .i64 day, .int .i64 1, .int .i64 5, .int .i64 1] 49)) = W0 at f0 b0 z0 ⊢
  obtain ⟨f0, f1, f2, f3, f4⟩ := f0
  go_region_held3 (fun w' => w'.cell? ⟨w.heap.size, 0, none⟩ = some (.int .i64 4) ∧ w'.cell? ⟨w.heap.size, 1, none⟩ = some (.int .i64 day) ∧ w'.cell? ⟨w.heap.size, 2, none⟩ = some (.int .i64 1) ∧ w'.cell? ⟨w.heap.size, 3, none⟩ = some (.int .i64 5) ∧ w'.cell? ⟨w.heap.size, 4, none⟩ = some (.int .i64 1)) (first | assumption | (refine ⟨?_, ?_, ?_, ?_, ?_⟩ <;> (first | assumption | (simp [go_sem, f0, f1, f2, f3, f4]))))
    (first
      | (go_at_call 25; refine (terms7_any _).mono ?_; rintro e w1 ⟨v1, rfl, ht1, hb1⟩; have hc1 : w1.cell? ⟨w.heap.size, 0, none⟩ = some (.int .i64 4) ∧ w1.cell? ⟨w.heap.size, 1, none⟩ = some (.int .i64 day) ∧ w1.cell? ⟨w.heap.size, 2, none⟩ = some (.int .i64 1) ∧ w1.cell? ⟨w.heap.size, 3, none⟩ = some (.int .i64 5) ∧ w1.cell? ⟨w.heap.size, 4, none⟩ = some (.int .i64 1) := ⟨(hb1.cell (p := ⟨w.heap.size, 0, none⟩) z0).trans f0, (hb1.cell (p := ⟨w.heap.size, 1, none⟩) z0).trans f1, (hb1.cell (p := ⟨w.heap.size, 2, none⟩) z0).trans f2, (hb1.cell (p := ⟨w.heap.size, 3, none⟩) z0).trans f3, (hb1.cell (p := ⟨w.heap.size, 4, none⟩) z0).trans f4⟩)
      | (go_at_call 24; refine (evRight_any _ [(0, false), (0, false)] 0 1 1 0 0 10957 4 day 1 5 1 10 HE _ ht1).mono ?_; rintro e w2 ⟨rfl, hb2⟩; obtain ⟨c0, c1, c2, c3, c4⟩ := hc1; have hz1 := hb1.size; have z1 : w.heap.size < w1.heap.size := Nat.lt_of_lt_of_le z0 hz1; have hc2 : w2.cell? ⟨w.heap.size, 0, none⟩ = some (.int .i64 4) ∧ w2.cell? ⟨w.heap.size, 1, none⟩ = some (.int .i64 day) ∧ w2.cell? ⟨w.heap.size, 2, none⟩ = some (.int .i64 1) ∧ w2.cell? ⟨w.heap.size, 3, none⟩ = some (.int .i64 5) ∧ w2.cell? ⟨w.heap.size, 4, none⟩ = some (.int .i64 1) := ⟨(hb2.cell (p := ⟨w.heap.size, 0, none⟩) z1).trans c0, (hb2.cell (p := ⟨w.heap.size, 1, none⟩) z1).trans c1, (hb2.cell (p := ⟨w.heap.size, 2, none⟩) z1).trans c2, (hb2.cell (p := ⟨w.heap.size, 3, none⟩) z1).trans c3, (hb2.cell (p := ⟨w.heap.size, 4, none⟩) z1).trans c4⟩))
  have hbw2 : Below w.heap.size w w2 := (by repeat (first | exact Below.refl _ _ | refine bl_al ?_ _ | refine bl_dr ?_ | refine bl_dN ?_ _ | refine bl_tr ?_ (by assumption)))
  clear hc2 hb1 hb2 ht1 f0 f1 f2 f3 f4
  go_wp2_with fail
  refine (awake7_any _).mono ?_
  rintro e w3 ⟨rfl, hb3⟩
  go_wp2_with fail
  go_ret
  exact ⟨rfl, (by repeat (first | exact Below.refl _ _ | refine bl_al ?_ _ | refine bl_dr ?_ | refine bl_dN ?_ _ | refine bl_tr ?_ (by assumption)))⟩
set_option maxHeartbeats 800000 in
theorem evDays_4_good (day kind : Int) (hq : (IntKind.u64.wrap kind).tmod 6 = 3) (h : 10957 ≤ day ∧ day ≤ 2932896) (w : World) : Calls Try.prog 8 #[.int .i64 day, .int .i64 kind] w (RetB (.bool true) w) := by
  have HE : Hid (rightE 0 [(0, false), (0, false)] 1 1 0 0 10957 4 day 1 5 1 = 0) := by
    have e : rightE 0 [(0, false), (0, false)] 1 1 0 0 10957 4 day 1 5 1 = if (decide (day < 10957) || decide (2932896 < day)) = true then 10 else 0 := by rfl
    show _ = _
    rw [e]
    simp only [show decide (day < 10957) = false from by simp; omega, show decide (2932896 < day) = false from by simp; omega]; rfl
  have d1 : decide (10957 ≤ day) = true := by simp; omega
  have d2 : decide (day ≤ 2932896) = true := by simp; omega
  go_enter Try.func8, Try.ntmps8
  go_wp2_with fail
  have f0 : (w.alloc (.cells #[.int .i64 4, .int .i64 day, .int .i64 1, .int .i64 5, .int .i64 1] 49)).cell? ⟨w.heap.size, 0, none⟩ = some (.int .i64 4) ∧ (w.alloc (.cells #[.int .i64 4, .int .i64 day, .int .i64 1, .int .i64 5, .int .i64 1] 49)).cell? ⟨w.heap.size, 1, none⟩ = some (.int .i64 day) ∧ (w.alloc (.cells #[.int .i64 4, .int .i64 day, .int .i64 1, .int .i64 5, .int .i64 1] 49)).cell? ⟨w.heap.size, 2, none⟩ = some (.int .i64 1) ∧ (w.alloc (.cells #[.int .i64 4, .int .i64 day, .int .i64 1, .int .i64 5, .int .i64 1] 49)).cell? ⟨w.heap.size, 3, none⟩ = some (.int .i64 5) ∧ (w.alloc (.cells #[.int .i64 4, .int .i64 day, .int .i64 1, .int .i64 5, .int .i64 1] 49)).cell? ⟨w.heap.size, 4, none⟩ = some (.int .i64 1) := by simp [go_sem]
  have b0 : Below w.heap.size w (w.alloc (.cells #[.int .i64 4, .int .i64 day, .int .i64 1, .int .i64 5, .int .i64 1] 49)) := (by repeat (first | exact Below.refl _ _ | refine bl_al ?_ _ | refine bl_dr ?_ | refine bl_dN ?_ _ | refine bl_tr ?_ (by assumption)))
  have z0 : w.heap.size < (w.alloc (.cells #[.int .i64 4, .int .i64 day, .int .i64 1, .int .i64 5, .int .i64 1] 49)).heap.size := by simp only [World.size_alloc]; omega
  generalize (w.alloc (.cells #[.int .i64 4, .int .i64 day, .int .i64 1, .int .i64 5, .int .i64 1] 49)) = W0 at f0 b0 z0 ⊢
  obtain ⟨f0, f1, f2, f3, f4⟩ := f0
  go_region_held3 (fun w' => w'.cell? ⟨w.heap.size, 0, none⟩ = some (.int .i64 4) ∧ w'.cell? ⟨w.heap.size, 1, none⟩ = some (.int .i64 day) ∧ w'.cell? ⟨w.heap.size, 2, none⟩ = some (.int .i64 1) ∧ w'.cell? ⟨w.heap.size, 3, none⟩ = some (.int .i64 5) ∧ w'.cell? ⟨w.heap.size, 4, none⟩ = some (.int .i64 1)) (first | assumption | (refine ⟨?_, ?_, ?_, ?_, ?_⟩ <;> (first | assumption | (simp [go_sem, f0, f1, f2, f3, f4]))))
    (first
      | (go_at_call 25; refine (terms7_any _).mono ?_; rintro e w1 ⟨v1, rfl, ht1, hb1⟩; have hc1 : w1.cell? ⟨w.heap.size, 0, none⟩ = some (.int .i64 4) ∧ w1.cell? ⟨w.heap.size, 1, none⟩ = some (.int .i64 day) ∧ w1.cell? ⟨w.heap.size, 2, none⟩ = some (.int .i64 1) ∧ w1.cell? ⟨w.heap.size, 3, none⟩ = some (.int .i64 5) ∧ w1.cell? ⟨w.heap.size, 4, none⟩ = some (.int .i64 1) := ⟨(hb1.cell (p := ⟨w.heap.size, 0, none⟩) z0).trans f0, (hb1.cell (p := ⟨w.heap.size, 1, none⟩) z0).trans f1, (hb1.cell (p := ⟨w.heap.size, 2, none⟩) z0).trans f2, (hb1.cell (p := ⟨w.heap.size, 3, none⟩) z0).trans f3, (hb1.cell (p := ⟨w.heap.size, 4, none⟩) z0).trans f4⟩)
      | (go_at_call 24; refine (evRight_any _ [(0, false), (0, false)] 0 1 1 0 0 10957 4 day 1 5 1 0 HE _ ht1).mono ?_; rintro e w2 ⟨rfl, hb2⟩; obtain ⟨c0, c1, c2, c3, c4⟩ := hc1; have hz1 := hb1.size; have z1 : w.heap.size < w1.heap.size := Nat.lt_of_lt_of_le z0 hz1; have hc2 : w2.cell? ⟨w.heap.size, 0, none⟩ = some (.int .i64 4) ∧ w2.cell? ⟨w.heap.size, 1, none⟩ = some (.int .i64 day) ∧ w2.cell? ⟨w.heap.size, 2, none⟩ = some (.int .i64 1) ∧ w2.cell? ⟨w.heap.size, 3, none⟩ = some (.int .i64 5) ∧ w2.cell? ⟨w.heap.size, 4, none⟩ = some (.int .i64 1) := ⟨(hb2.cell (p := ⟨w.heap.size, 0, none⟩) z1).trans c0, (hb2.cell (p := ⟨w.heap.size, 1, none⟩) z1).trans c1, (hb2.cell (p := ⟨w.heap.size, 2, none⟩) z1).trans c2, (hb2.cell (p := ⟨w.heap.size, 3, none⟩) z1).trans c3, (hb2.cell (p := ⟨w.heap.size, 4, none⟩) z1).trans c4⟩))
  have hbw2 : Below w.heap.size w w2 := (by repeat (first | exact Below.refl _ _ | refine bl_al ?_ _ | refine bl_dr ?_ | refine bl_dN ?_ _ | refine bl_tr ?_ (by assumption)))
  clear hc2 hb1 hb2 ht1 f0 f1 f2 f3 f4
  go_wp2_with fail
  refine (awake7_any _).mono ?_
  rintro e w3 ⟨rfl, hb3⟩
  go_wp2_with fail
  go_ret
  exact ⟨rfl, (by repeat (first | exact Below.refl _ _ | refine bl_al ?_ _ | refine bl_dr ?_ | refine bl_dN ?_ _ | refine bl_tr ?_ (by assumption)))⟩
set_option maxHeartbeats 800000 in
theorem evDays_5_early (day kind : Int) (hq : (IntKind.u64.wrap kind).tmod 6 = 4) (h : day < 10957) (w : World) : Calls Try.prog 8 #[.int .i64 day, .int .i64 kind] w (RetB (.bool true) w) := by
  have HE : Hid (rightE 0 [(0, false), (0, false)] 1 1 0 0 10957 5 day 1 5 1 = 10) := by
    have e : rightE 0 [(0, false), (0, false)] 1 1 0 0 10957 5 day 1 5 1 = if (decide (day < 10957) || decide (2932896 < day)) = true then 10 else 0 := by rfl
    show _ = _
    rw [e]
    simp only [show decide (day < 10957) = true from by simpa using h]; rfl
  have d1 : decide (10957 ≤ day) = false := by simp; omega
  go_enter Try.func8, Try.ntmps8
  go_wp2_with fail
  have f0 : (w.alloc (.cells #[.int .i64 5, .int .i64 day, .int .i64 1, .int .i64 5, .int .i64 1] 49)).cell? ⟨w.heap.size, 0, none⟩ = some (.int .i64 5) ∧ (w.alloc (.cells #[.int .i64 5, .int .i64 day, .int .i64 1, .int .i64 5, .int .i64 1] 49)).cell? ⟨w.heap.size, 1, none⟩ = some (.int .i64 day) ∧ (w.alloc (.cells #[.int .i64 5, .int .i64 day, .int .i64 1, .int .i64 5, .int .i64 1] 49)).cell? ⟨w.heap.size, 2, none⟩ = some (.int .i64 1) ∧ (w.alloc (.cells #[.int .i64 5, .int .i64 day, .int .i64 1, .int .i64 5, .int .i64 1] 49)).cell? ⟨w.heap.size, 3, none⟩ = some (.int .i64 5) ∧ (w.alloc (.cells #[.int .i64 5, .int .i64 day, .int .i64 1, .int .i64 5, .int .i64 1] 49)).cell? ⟨w.heap.size, 4, none⟩ = some (.int .i64 1) := by simp [go_sem]
  have b0 : Below w.heap.size w (w.alloc (.cells #[.int .i64 5, .int .i64 day, .int .i64 1, .int .i64 5, .int .i64 1] 49)) := (by repeat (first | exact Below.refl _ _ | refine bl_al ?_ _ | refine bl_dr ?_ | refine bl_dN ?_ _ | refine bl_tr ?_ (by assumption)))
  have z0 : w.heap.size < (w.alloc (.cells #[.int .i64 5, .int .i64 day, .int .i64 1, .int .i64 5, .int .i64 1] 49)).heap.size := by simp only [World.size_alloc]; omega
  generalize (w.alloc (.cells #[.int .i64 5, .int .i64 day, .int .i64 1, .int .i64 5, .int .i64 1] 49)) = W0 at f0 b0 z0 ⊢
  obtain ⟨f0, f1, f2, f3, f4⟩ := f0
  go_region_held3 (fun w' => w'.cell? ⟨w.heap.size, 0, none⟩ = some (.int .i64 5) ∧ w'.cell? ⟨w.heap.size, 1, none⟩ = some (.int .i64 day) ∧ w'.cell? ⟨w.heap.size, 2, none⟩ = some (.int .i64 1) ∧ w'.cell? ⟨w.heap.size, 3, none⟩ = some (.int .i64 5) ∧ w'.cell? ⟨w.heap.size, 4, none⟩ = some (.int .i64 1)) (first | assumption | (refine ⟨?_, ?_, ?_, ?_, ?_⟩ <;> (first | assumption | (simp [go_sem, f0, f1, f2, f3, f4]))))
    (first
      | (go_at_call 25; refine (terms7_any _).mono ?_; rintro e w1 ⟨v1, rfl, ht1, hb1⟩; have hc1 : w1.cell? ⟨w.heap.size, 0, none⟩ = some (.int .i64 5) ∧ w1.cell? ⟨w.heap.size, 1, none⟩ = some (.int .i64 day) ∧ w1.cell? ⟨w.heap.size, 2, none⟩ = some (.int .i64 1) ∧ w1.cell? ⟨w.heap.size, 3, none⟩ = some (.int .i64 5) ∧ w1.cell? ⟨w.heap.size, 4, none⟩ = some (.int .i64 1) := ⟨(hb1.cell (p := ⟨w.heap.size, 0, none⟩) z0).trans f0, (hb1.cell (p := ⟨w.heap.size, 1, none⟩) z0).trans f1, (hb1.cell (p := ⟨w.heap.size, 2, none⟩) z0).trans f2, (hb1.cell (p := ⟨w.heap.size, 3, none⟩) z0).trans f3, (hb1.cell (p := ⟨w.heap.size, 4, none⟩) z0).trans f4⟩)
      | (go_at_call 24; refine (evRight_any _ [(0, false), (0, false)] 0 1 1 0 0 10957 5 day 1 5 1 10 HE _ ht1).mono ?_; rintro e w2 ⟨rfl, hb2⟩; obtain ⟨c0, c1, c2, c3, c4⟩ := hc1; have hz1 := hb1.size; have z1 : w.heap.size < w1.heap.size := Nat.lt_of_lt_of_le z0 hz1; have hc2 : w2.cell? ⟨w.heap.size, 0, none⟩ = some (.int .i64 5) ∧ w2.cell? ⟨w.heap.size, 1, none⟩ = some (.int .i64 day) ∧ w2.cell? ⟨w.heap.size, 2, none⟩ = some (.int .i64 1) ∧ w2.cell? ⟨w.heap.size, 3, none⟩ = some (.int .i64 5) ∧ w2.cell? ⟨w.heap.size, 4, none⟩ = some (.int .i64 1) := ⟨(hb2.cell (p := ⟨w.heap.size, 0, none⟩) z1).trans c0, (hb2.cell (p := ⟨w.heap.size, 1, none⟩) z1).trans c1, (hb2.cell (p := ⟨w.heap.size, 2, none⟩) z1).trans c2, (hb2.cell (p := ⟨w.heap.size, 3, none⟩) z1).trans c3, (hb2.cell (p := ⟨w.heap.size, 4, none⟩) z1).trans c4⟩))
  have hbw2 : Below w.heap.size w w2 := (by repeat (first | exact Below.refl _ _ | refine bl_al ?_ _ | refine bl_dr ?_ | refine bl_dN ?_ _ | refine bl_tr ?_ (by assumption)))
  clear hc2 hb1 hb2 ht1 f0 f1 f2 f3 f4
  go_wp2_with fail
  refine (awake7_any _).mono ?_
  rintro e w3 ⟨rfl, hb3⟩
  go_wp2_with fail
  go_ret
  exact ⟨rfl, (by repeat (first | exact Below.refl _ _ | refine bl_al ?_ _ | refine bl_dr ?_ | refine bl_dN ?_ _ | refine bl_tr ?_ (by assumption)))⟩
set_option maxHeartbeats 800000 in
theorem evDays_5_late (day kind : Int) (hq : (IntKind.u64.wrap kind).tmod 6 = 4) (h : 2932896 < day) (w : World) : Calls Try.prog 8 #[.int .i64 day, .int .i64 kind] w (RetB (.bool true) w) := by
  have HE : Hid (rightE 0 [(0, false), (0, false)] 1 1 0 0 10957 5 day 1 5 1 = 10) := by
    have e : rightE 0 [(0, false), (0, false)] 1 1 0 0 10957 5 day 1 5 1 = if (decide (day < 10957) || decide (2932896 < day)) = true then 10 else 0 := by rfl
    show _ = _
    rw [e]
    simp only [show decide (2932896 < day) = true from by simpa using h, Bool.or_true]; rfl
  have d1 : decide (10957 ≤ day) = true := by simp; omega
  have d2 : decide (day ≤ 2932896) = false := by simp; omega
  go_enter Try.func8, Try.ntmps8
  go_wp2_with fail
  have f0 : (w.alloc (.cells #[.int .i64 5, .int .i64 day, .int .i64 1, .int .i64 5, .int .i64 1] 49)).cell? ⟨w.heap.size, 0, none⟩ = some (.int .i64 5) ∧ (w.alloc (.cells #[.int .i64 5, .int .i64 day, .int .i64 1, .int .i64 5, .int .i64 1] 49)).cell? ⟨w.heap.size, 1, none⟩ = some (.int .i64 day) ∧ (w.alloc (.cells #[.int .i64 5, .int .i64 day, .int .i64 1, .int .i64 5, .int .i64 1] 49)).cell? ⟨w.heap.size, 2, none⟩ = some (.int .i64 1) ∧ (w.alloc (.cells #[.int .i64 5, .int .i64 day, .int .i64 1, .int .i64 5, .int .i64 1] 49)).cell? ⟨w.heap.size, 3, none⟩ = some (.int .i64 5) ∧ (w.alloc (.cells #[.int .i64 5, .int .i64 day, .int .i64 1, .int .i64 5, .int .i64 1] 49)).cell? ⟨w.heap.size, 4, none⟩ = some (.int .i64 1) := by simp [go_sem]
  have b0 : Below w.heap.size w (w.alloc (.cells #[.int .i64 5, .int .i64 day, .int .i64 1, .int .i64 5, .int .i64 1] 49)) := (by repeat (first | exact Below.refl _ _ | refine bl_al ?_ _ | refine bl_dr ?_ | refine bl_dN ?_ _ | refine bl_tr ?_ (by assumption)))
  have z0 : w.heap.size < (w.alloc (.cells #[.int .i64 5, .int .i64 day, .int .i64 1, .int .i64 5, .int .i64 1] 49)).heap.size := by simp only [World.size_alloc]; omega
  generalize (w.alloc (.cells #[.int .i64 5, .int .i64 day, .int .i64 1, .int .i64 5, .int .i64 1] 49)) = W0 at f0 b0 z0 ⊢
  obtain ⟨f0, f1, f2, f3, f4⟩ := f0
  go_region_held3 (fun w' => w'.cell? ⟨w.heap.size, 0, none⟩ = some (.int .i64 5) ∧ w'.cell? ⟨w.heap.size, 1, none⟩ = some (.int .i64 day) ∧ w'.cell? ⟨w.heap.size, 2, none⟩ = some (.int .i64 1) ∧ w'.cell? ⟨w.heap.size, 3, none⟩ = some (.int .i64 5) ∧ w'.cell? ⟨w.heap.size, 4, none⟩ = some (.int .i64 1)) (first | assumption | (refine ⟨?_, ?_, ?_, ?_, ?_⟩ <;> (first | assumption | (simp [go_sem, f0, f1, f2, f3, f4]))))
    (first
      | (go_at_call 25; refine (terms7_any _).mono ?_; rintro e w1 ⟨v1, rfl, ht1, hb1⟩; have hc1 : w1.cell? ⟨w.heap.size, 0, none⟩ = some (.int .i64 5) ∧ w1.cell? ⟨w.heap.size, 1, none⟩ = some (.int .i64 day) ∧ w1.cell? ⟨w.heap.size, 2, none⟩ = some (.int .i64 1) ∧ w1.cell? ⟨w.heap.size, 3, none⟩ = some (.int .i64 5) ∧ w1.cell? ⟨w.heap.size, 4, none⟩ = some (.int .i64 1) := ⟨(hb1.cell (p := ⟨w.heap.size, 0, none⟩) z0).trans f0, (hb1.cell (p := ⟨w.heap.size, 1, none⟩) z0).trans f1, (hb1.cell (p := ⟨w.heap.size, 2, none⟩) z0).trans f2, (hb1.cell (p := ⟨w.heap.size, 3, none⟩) z0).trans f3, (hb1.cell (p := ⟨w.heap.size, 4, none⟩) z0).trans f4⟩)
      | (go_at_call 24; refine (evRight_any _ [(0, false), (0, false)] 0 1 1 0 0 10957 5 day 1 5 1 10 HE _ ht1).mono ?_; rintro e w2 ⟨rfl, hb2⟩; obtain ⟨c0, c1, c2, c3, c4⟩ := hc1; have hz1 := hb1.size; have z1 : w.heap.size < w1.heap.size := Nat.lt_of_lt_of_le z0 hz1; have hc2 : w2.cell? ⟨w.heap.size, 0, none⟩ = some (.int .i64 5) ∧ w2.cell? ⟨w.heap.size, 1, none⟩ = some (.int .i64 day) ∧ w2.cell? ⟨w.heap.size, 2, none⟩ = some (.int .i64 1) ∧ w2.cell? ⟨w.heap.size, 3, none⟩ = some (.int .i64 5) ∧ w2.cell? ⟨w.heap.size, 4, none⟩ = some (.int .i64 1) := ⟨(hb2.cell (p := ⟨w.heap.size, 0, none⟩) z1).trans c0, (hb2.cell (p := ⟨w.heap.size, 1, none⟩) z1).trans c1, (hb2.cell (p := ⟨w.heap.size, 2, none⟩) z1).trans c2, (hb2.cell (p := ⟨w.heap.size, 3, none⟩) z1).trans c3, (hb2.cell (p := ⟨w.heap.size, 4, none⟩) z1).trans c4⟩))
  have hbw2 : Below w.heap.size w w2 := (by repeat (first | exact Below.refl _ _ | refine bl_al ?_ _ | refine bl_dr ?_ | refine bl_dN ?_ _ | refine bl_tr ?_ (by assumption)))
  clear hc2 hb1 hb2 ht1 f0 f1 f2 f3 f4
  go_wp2_with fail
  refine (awake7_any _).mono ?_
  rintro e w3 ⟨rfl, hb3⟩
  go_wp2_with fail
  go_ret
  exact ⟨rfl, (by repeat (first | exact Below.refl _ _ | refine bl_al ?_ _ | refine bl_dr ?_ | refine bl_dN ?_ _ | refine bl_tr ?_ (by assumption)))⟩
set_option maxHeartbeats 800000 in
theorem evDays_5_good (day kind : Int) (hq : (IntKind.u64.wrap kind).tmod 6 = 4) (h : 10957 ≤ day ∧ day ≤ 2932896) (w : World) : Calls Try.prog 8 #[.int .i64 day, .int .i64 kind] w (RetB (.bool true) w) := by
  have HE : Hid (rightE 0 [(0, false), (0, false)] 1 1 0 0 10957 5 day 1 5 1 = 0) := by
    have e : rightE 0 [(0, false), (0, false)] 1 1 0 0 10957 5 day 1 5 1 = if (decide (day < 10957) || decide (2932896 < day)) = true then 10 else 0 := by rfl
    show _ = _
    rw [e]
    simp only [show decide (day < 10957) = false from by simp; omega, show decide (2932896 < day) = false from by simp; omega]; rfl
  have d1 : decide (10957 ≤ day) = true := by simp; omega
  have d2 : decide (day ≤ 2932896) = true := by simp; omega
  go_enter Try.func8, Try.ntmps8
  go_wp2_with fail
  have f0 : (w.alloc (.cells #[.int .i64 5, .int .i64 day, .int .i64 1, .int .i64 5, .int .i64 1] 49)).cell? ⟨w.heap.size, 0, none⟩ = some (.int .i64 5) ∧ (w.alloc (.cells #[.int .i64 5, .int .i64 day, .int .i64 1, .int .i64 5, .int .i64 1] 49)).cell? ⟨w.heap.size, 1, none⟩ = some (.int .i64 day) ∧ (w.alloc (.cells #[.int .i64 5, .int .i64 day, .int .i64 1, .int .i64 5, .int .i64 1] 49)).cell? ⟨w.heap.size, 2, none⟩ = some (.int .i64 1) ∧ (w.alloc (.cells #[.int .i64 5, .int .i64 day, .int .i64 1, .int .i64 5, .int .i64 1] 49)).cell? ⟨w.heap.size, 3, none⟩ = some (.int .i64 5) ∧ (w.alloc (.cells #[.int .i64 5, .int .i64 day, .int .i64 1, .int .i64 5, .int .i64 1] 49)).cell? ⟨w.heap.size, 4, none⟩ = some (.int .i64 1) := by simp [go_sem]
  have b0 : Below w.heap.size w (w.alloc (.cells #[.int .i64 5, .int .i64 day, .int .i64 1, .int .i64 5, .int .i64 1] 49)) := (by repeat (first | exact Below.refl _ _ | refine bl_al ?_ _ | refine bl_dr ?_ | refine bl_dN ?_ _ | refine bl_tr ?_ (by assumption)))
  have z0 : w.heap.size < (w.alloc (.cells #[.int .i64 5, .int .i64 day, .int .i64 1, .int .i64 5, .int .i64 1] 49)).heap.size := by simp only [World.size_alloc]; omega
  generalize (w.alloc (.cells #[.int .i64 5, .int .i64 day, .int .i64 1, .int .i64 5, .int .i64 1] 49)) = W0 at f0 b0 z0 ⊢
  obtain ⟨f0, f1, f2, f3, f4⟩ := f0
  go_region_held3 (fun w' => w'.cell? ⟨w.heap.size, 0, none⟩ = some (.int .i64 5) ∧ w'.cell? ⟨w.heap.size, 1, none⟩ = some (.int .i64 day) ∧ w'.cell? ⟨w.heap.size, 2, none⟩ = some (.int .i64 1) ∧ w'.cell? ⟨w.heap.size, 3, none⟩ = some (.int .i64 5) ∧ w'.cell? ⟨w.heap.size, 4, none⟩ = some (.int .i64 1)) (first | assumption | (refine ⟨?_, ?_, ?_, ?_, ?_⟩ <;> (first | assumption | (simp [go_sem, f0, f1, f2, f3, f4]))))
    (first
      | (go_at_call 25; refine (terms7_any _).mono ?_; rintro e w1 ⟨v1, rfl, ht1, hb1⟩; have hc1 : w1.cell? ⟨w.heap.size, 0, none⟩ = some (.int .i64 5) ∧ w1.cell? ⟨w.heap.size, 1, none⟩ = some (.int .i64 day) ∧ w1.cell? ⟨w.heap.size, 2, none⟩ = some (.int .i64 1) ∧ w1.cell? ⟨w.heap.size, 3, none⟩ = some (.int .i64 5) ∧ w1.cell? ⟨w.heap.size, 4, none⟩ = some (.int .i64 1) := ⟨(hb1.cell (p := ⟨w.heap.size, 0, none⟩) z0).trans f0, (hb1.cell (p := ⟨w.heap.size, 1, none⟩) z0).trans f1, (hb1.cell (p := ⟨w.heap.size, 2, none⟩) z0).trans f2, (hb1.cell (p := ⟨w.heap.size, 3, none⟩) z0).trans f3, (hb1.cell (p := ⟨w.heap.size, 4, none⟩) z0).trans f4⟩)
      | (go_at_call 24; refine (evRight_any _ [(0, false), (0, false)] 0 1 1 0 0 10957 5 day 1 5 1 0 HE _ ht1).mono ?_; rintro e w2 ⟨rfl, hb2⟩; obtain ⟨c0, c1, c2, c3, c4⟩ := hc1; have hz1 := hb1.size; have z1 : w.heap.size < w1.heap.size := Nat.lt_of_lt_of_le z0 hz1; have hc2 : w2.cell? ⟨w.heap.size, 0, none⟩ = some (.int .i64 5) ∧ w2.cell? ⟨w.heap.size, 1, none⟩ = some (.int .i64 day) ∧ w2.cell? ⟨w.heap.size, 2, none⟩ = some (.int .i64 1) ∧ w2.cell? ⟨w.heap.size, 3, none⟩ = some (.int .i64 5) ∧ w2.cell? ⟨w.heap.size, 4, none⟩ = some (.int .i64 1) := ⟨(hb2.cell (p := ⟨w.heap.size, 0, none⟩) z1).trans c0, (hb2.cell (p := ⟨w.heap.size, 1, none⟩) z1).trans c1, (hb2.cell (p := ⟨w.heap.size, 2, none⟩) z1).trans c2, (hb2.cell (p := ⟨w.heap.size, 3, none⟩) z1).trans c3, (hb2.cell (p := ⟨w.heap.size, 4, none⟩) z1).trans c4⟩))
  have hbw2 : Below w.heap.size w w2 := (by repeat (first | exact Below.refl _ _ | refine bl_al ?_ _ | refine bl_dr ?_ | refine bl_dN ?_ _ | refine bl_tr ?_ (by assumption)))
  clear hc2 hb1 hb2 ht1 f0 f1 f2 f3 f4
  go_wp2_with fail
  refine (awake7_any _).mono ?_
  rintro e w3 ⟨rfl, hb3⟩
  go_wp2_with fail
  go_ret
  exact ⟨rfl, (by repeat (first | exact Below.refl _ _ | refine bl_al ?_ _ | refine bl_dr ?_ | refine bl_dN ?_ _ | refine bl_tr ?_ (by assumption)))⟩
set_option maxHeartbeats 800000 in
theorem evDays_6_early (day kind : Int) (hq : (IntKind.u64.wrap kind).tmod 6 = 5) (h : day < 10957) (w : World) : Calls Try.prog 8 #[.int .i64 day, .int .i64 kind] w (RetB (.bool true) w) := by
  have HE : Hid (rightE 0 [(0, false), (0, false)] 1 1 0 0 10957 6 day 1 5 0 = 10) := by
    have e : rightE 0 [(0, false), (0, false)] 1 1 0 0 10957 6 day 1 5 0 = if (decide (day < 10957) || decide (2932896 < day)) = true then 10 else 0 := by rfl
    show _ = _
    rw [e]
    simp only [show decide (day < 10957) = true from by simpa using h]; rfl
  have d1 : decide (10957 ≤ day) = false := by simp; omega
  go_enter Try.func8, Try.ntmps8
  go_wp2_with fail
  have f0 : (w.alloc (.cells #[.int .i64 6, .int .i64 day, .int .i64 1, .int .i64 5, .int .i64 0] 49)).cell? ⟨w.heap.size, 0, none⟩ = some (.int .i64 6) ∧ (w.alloc (.cells #[.int .i64 6, .int .i64 day, .int .i64 1, .int .i64 5, .int .i64 0] 49)).cell? ⟨w.heap.size, 1, none⟩ = some (.int .i64 day) ∧ (w.alloc (.cells #[.int .i64 6, .int .i64 day, .int .i64 1, .int .i64 5, .int .i64 0] 49)).cell? ⟨w.heap.size, 2, none⟩ = some (.int .i64 1) ∧ (w.alloc (.cells #[.int .i64 6, .int .i64 day, .int .i64 1, .int .i64 5, .int .i64 0] 49)).cell? ⟨w.heap.size, 3, none⟩ = some (.int .i64 5) ∧ (w.alloc (.cells #[.int .i64 6, .int .i64 day, .int .i64 1, .int .i64 5, .int .i64 0] 49)).cell? ⟨w.heap.size, 4, none⟩ = some (.int .i64 0) := by simp [go_sem]
  have b0 : Below w.heap.size w (w.alloc (.cells #[.int .i64 6, .int .i64 day, .int .i64 1, .int .i64 5, .int .i64 0] 49)) := (by repeat (first | exact Below.refl _ _ | refine bl_al ?_ _ | refine bl_dr ?_ | refine bl_dN ?_ _ | refine bl_tr ?_ (by assumption)))
  have z0 : w.heap.size < (w.alloc (.cells #[.int .i64 6, .int .i64 day, .int .i64 1, .int .i64 5, .int .i64 0] 49)).heap.size := by simp only [World.size_alloc]; omega
  generalize (w.alloc (.cells #[.int .i64 6, .int .i64 day, .int .i64 1, .int .i64 5, .int .i64 0] 49)) = W0 at f0 b0 z0 ⊢
  obtain ⟨f0, f1, f2, f3, f4⟩ := f0
  go_region_held3 (fun w' => w'.cell? ⟨w.heap.size, 0, none⟩ = some (.int .i64 6) ∧ w'.cell? ⟨w.heap.size, 1, none⟩ = some (.int .i64 day) ∧ w'.cell? ⟨w.heap.size, 2, none⟩ = some (.int .i64 1) ∧ w'.cell? ⟨w.heap.size, 3, none⟩ = some (.int .i64 5) ∧ w'.cell? ⟨w.heap.size, 4, none⟩ = some (.int .i64 0)) (first | assumption | (refine ⟨?_, ?_, ?_, ?_, ?_⟩ <;> (first | assumption | (simp [go_sem, f0, f1, f2, f3, f4]))))
    (first
      | (go_at_call 25; refine (terms7_any _).mono ?_; rintro e w1 ⟨v1, rfl, ht1, hb1⟩; have hc1 : w1.cell? ⟨w.heap.size, 0, none⟩ = some (.int .i64 6) ∧ w1.cell? ⟨w.heap.size, 1, none⟩ = some (.int .i64 day) ∧ w1.cell? ⟨w.heap.size, 2, none⟩ = some (.int .i64 1) ∧ w1.cell? ⟨w.heap.size, 3, none⟩ = some (.int .i64 5) ∧ w1.cell? ⟨w.heap.size, 4, none⟩ = some (.int .i64 0) := ⟨(hb1.cell (p := ⟨w.heap.size, 0, none⟩) z0).trans f0, (hb1.cell (p := ⟨w.heap.size, 1, none⟩) z0).trans f1, (hb1.cell (p := ⟨w.heap.size, 2, none⟩) z0).trans f2, (hb1.cell (p := ⟨w.heap.size, 3, none⟩) z0).trans f3, (hb1.cell (p := ⟨w.heap.size, 4, none⟩) z0).trans f4⟩)
      | (go_at_call 24; refine (evRight_any _ [(0, false), (0, false)] 0 1 1 0 0 10957 6 day 1 5 0 10 HE _ ht1).mono ?_; rintro e w2 ⟨rfl, hb2⟩; obtain ⟨c0, c1, c2, c3, c4⟩ := hc1; have hz1 := hb1.size; have z1 : w.heap.size < w1.heap.size := Nat.lt_of_lt_of_le z0 hz1; have hc2 : w2.cell? ⟨w.heap.size, 0, none⟩ = some (.int .i64 6) ∧ w2.cell? ⟨w.heap.size, 1, none⟩ = some (.int .i64 day) ∧ w2.cell? ⟨w.heap.size, 2, none⟩ = some (.int .i64 1) ∧ w2.cell? ⟨w.heap.size, 3, none⟩ = some (.int .i64 5) ∧ w2.cell? ⟨w.heap.size, 4, none⟩ = some (.int .i64 0) := ⟨(hb2.cell (p := ⟨w.heap.size, 0, none⟩) z1).trans c0, (hb2.cell (p := ⟨w.heap.size, 1, none⟩) z1).trans c1, (hb2.cell (p := ⟨w.heap.size, 2, none⟩) z1).trans c2, (hb2.cell (p := ⟨w.heap.size, 3, none⟩) z1).trans c3, (hb2.cell (p := ⟨w.heap.size, 4, none⟩) z1).trans c4⟩))
  have hbw2 : Below w.heap.size w w2 := (by repeat (first | exact Below.refl _ _ | refine bl_al ?_ _ | refine bl_dr ?_ | refine bl_dN ?_ _ | refine bl_tr ?_ (by assumption)))
  clear hc2 hb1 hb2 ht1 f0 f1 f2 f3 f4
  go_wp2_with fail
  refine (awake7_any _).mono ?_
  rintro e w3 ⟨rfl, hb3⟩
  go_wp2_with fail
  go_ret
  exact ⟨rfl, (by repeat (first | exact Below.refl _ _ | refine bl_al ?_ _ | refine bl_dr ?_ | refine bl_dN ?_ _ | refine bl_tr ?_ (by assumption)))⟩
set_option maxHeartbeats 800000 in
theorem evDays_6_late (day kind : Int) (hq : (IntKind.u64.wrap kind).tmod 6 = 5) (h : 2932896 < day) (w : World) : Calls Try.prog 8 #[.int .i64 day, .int .i64 kind] w (RetB (.bool true) w) := by
  have HE : Hid (rightE 0 [(0, false), (0, false)] 1 1 0 0 10957 6 day 1 5 0 = 10) := by
    have e : rightE 0 [(0, false), (0, false)] 1 1 0 0 10957 6 day 1 5 0 = if (decide (day < 10957) || decide (2932896 < day)) = true then 10 else 0 := by rfl
    show _ = _
    rw [e]
    simp only [show decide (2932896 < day) = true from by simpa using h, Bool.or_true]; rfl
  have d1 : decide (10957 ≤ day) = true := by simp; omega
  have d2 : decide (day ≤ 2932896) = false := by simp; omega
  go_enter Try.func8, Try.ntmps8
  go_wp2_with fail
  have f0 : (w.alloc (.cells #[.int .i64 6, .int .i64 day, .int .i64 1, .int .i64 5, .int .i64 0] 49)).cell? ⟨w.heap.size, 0, none⟩ = some (.int .i64 6) ∧ (w.alloc (.cells #[.int .i64 6, .int .i64 day, .int .i64 1, .int .i64 5, .int .i64 0] 49)).cell? ⟨w.heap.size, 1, none⟩ = some (.int .i64 day) ∧ (w.alloc (.cells #[.int .i64 6, .int .i64 day, .int .i64 1, .int .i64 5, .int .i64 0] 49)).cell? ⟨w.heap.size, 2, none⟩ = some (.int .i64 1) ∧ (w.alloc (.cells #[.int .i64 6, .int .i64 day, .int .i64 1, .int .i64 5, .int .i64 0] 49)).cell? ⟨w.heap.size, 3, none⟩ = some (.int .i64 5) ∧ (w.alloc (.cells #[.int .i64 6, .int .i64 day, .int .i64 1, .int .i64 5, .int .i64 0] 49)).cell? ⟨w.heap.size, 4, none⟩ = some (.int .i64 0) := by simp [go_sem]
  have b0 : Below w.heap.size w (w.alloc (.cells #[.int .i64 6, .int .i64 day, .int .i64 1, .int .i64 5, .int .i64 0] 49)) := (by repeat (first | exact Below.refl _ _ | refine bl_al ?_ _ | refine bl_dr ?_ | refine bl_dN ?_ _ | refine bl_tr ?_ (by assumption)))
  have z0 : w.heap.size < (w.alloc (.cells #[.int .i64 6, .int .i64 day, .int .i64 1, .int .i64 5, .int .i64 0] 49)).heap.size := by simp only [World.size_alloc]; omega
  generalize (w.alloc (.cells #[.int .i64 6, .int .i64 day, .int .i64 1, .int .i64 5, .int .i64 0] 49)) = W0 at f0 b0 z0 ⊢
  obtain ⟨f0, f1, f2, f3, f4⟩ := f0
  go_region_held3 (fun w' => w'.cell? ⟨w.heap.size, 0, none⟩ = some (.int .i64 6) ∧ w'.cell? ⟨w.heap.size, 1, none⟩ = some (.int .i64 day) ∧ w'.cell? ⟨w.heap.size, 2, none⟩ = some (.int .i64 1) ∧ w'.cell? ⟨w.heap.size, 3, none⟩ = some (.int .i64 5) ∧ w'.cell? ⟨w.heap.size, 4, none⟩ = some (.int .i64 0)) (first | assumption | (refine ⟨?_, ?_, ?_, ?_, ?_⟩ <;> (first | assumption | (simp [go_sem, f0, f1, f2, f3, f4]))))
    (first
      | (go_at_call 25; refine (terms7_any _).mono ?_; rintro e w1 ⟨v1, rfl, ht1, hb1⟩; have hc1 : w1.cell? ⟨w.heap.size, 0, none⟩ = some (.int .i64 6) ∧ w1.cell? ⟨w.heap.size, 1, none⟩ = some (.int .i64 day) ∧ w1.cell? ⟨w.heap.size, 2, none⟩ = some (.int .i64 1) ∧ w1.cell? ⟨w.heap.size, 3, none⟩ = some (.int .i64 5) ∧ w1.cell? ⟨w.heap.size, 4, none⟩ = some (.int .i64 0) := ⟨(hb1.cell (p := ⟨w.heap.size, 0, none⟩) z0).trans f0, (hb1.cell (p := ⟨w.heap.size, 1, none⟩) z0).trans f1, (hb1.cell (p := ⟨w.heap.size, 2, none⟩) z0).trans f2, (hb1.cell (p := ⟨w.heap.size, 3, none⟩) z0).trans f3, (hb1.cell (p := ⟨w.heap.size, 4, none⟩) z0).trans f4⟩)
      | (go_at_call 24; refine (evRight_any _ [(0, false), (0, false)] 0 1 1 0 0 10957 6 day 1 5 0 10 HE _ ht1).mono ?_; rintro e w2 ⟨rfl, hb2⟩; obtain ⟨c0, c1, c2, c3, c4⟩ := hc1; have hz1 := hb1.size; have z1 : w.heap.size < w1.heap.size := Nat.lt_of_lt_of_le z0 hz1; have hc2 : w2.cell? ⟨w.heap.size, 0, none⟩ = some (.int .i64 6) ∧ w2.cell? ⟨w.heap.size, 1, none⟩ = some (.int .i64 day) ∧ w2.cell? ⟨w.heap.size, 2, none⟩ = some (.int .i64 1) ∧ w2.cell? ⟨w.heap.size, 3, none⟩ = some (.int .i64 5) ∧ w2.cell? ⟨w.heap.size, 4, none⟩ = some (.int .i64 0) := ⟨(hb2.cell (p := ⟨w.heap.size, 0, none⟩) z1).trans c0, (hb2.cell (p := ⟨w.heap.size, 1, none⟩) z1).trans c1, (hb2.cell (p := ⟨w.heap.size, 2, none⟩) z1).trans c2, (hb2.cell (p := ⟨w.heap.size, 3, none⟩) z1).trans c3, (hb2.cell (p := ⟨w.heap.size, 4, none⟩) z1).trans c4⟩))
  have hbw2 : Below w.heap.size w w2 := (by repeat (first | exact Below.refl _ _ | refine bl_al ?_ _ | refine bl_dr ?_ | refine bl_dN ?_ _ | refine bl_tr ?_ (by assumption)))
  clear hc2 hb1 hb2 ht1 f0 f1 f2 f3 f4
  go_wp2_with fail
  refine (awake7_any _).mono ?_
  rintro e w3 ⟨rfl, hb3⟩
  go_wp2_with fail
  go_ret
  exact ⟨rfl, (by repeat (first | exact Below.refl _ _ | refine bl_al ?_ _ | refine bl_dr ?_ | refine bl_dN ?_ _ | refine bl_tr ?_ (by assumption)))⟩
set_option maxHeartbeats 800000 in
theorem evDays_6_good (day kind : Int) (hq : (IntKind.u64.wrap kind).tmod 6 = 5) (h : 10957 ≤ day ∧ day ≤ 2932896) (w : World) : Calls Try.prog 8 #[.int .i64 day, .int .i64 kind] w (RetB (.bool true) w) := by
  have HE : Hid (rightE 0 [(0, false), (0, false)] 1 1 0 0 10957 6 day 1 5 0 = 0) := by
    have e : rightE 0 [(0, false), (0, false)] 1 1 0 0 10957 6 day 1 5 0 = if (decide (day < 10957) || decide (2932896 < day)) = true then 10 else 0 := by rfl
    show _ = _
    rw [e]
    simp only [show decide (day < 10957) = false from by simp; omega, show decide (2932896 < day) = false from by simp; omega]; rfl
  have d1 : decide (10957 ≤ day) = true := by simp; omega
  have d2 : decide (day ≤ 2932896) = true := by simp; omega
  go_enter Try.func8, Try.ntmps8
  go_wp2_with fail
  have f0 : (w.alloc (.cells #[.int .i64 6, .int .i64 day, .int .i64 1, .int .i64 5, .int .i64 0] 49)).cell? ⟨w.heap.size, 0, none⟩ = some (.int .i64 6) ∧ (w.alloc (.cells #[.int .i64 6, .int .i64 day, .int .i64 1, .int .i64 5, .int .i64 0] 49)).cell? ⟨w.heap.size, 1, none⟩ = some (.int .i64 day) ∧ (w.alloc (.cells #[.int .i64 6, .int .i64 day, .int .i64 1, .int .i64 5, .int .i64 0] 49)).cell? ⟨w.heap.size, 2, none⟩ = some (.int .i64 1) ∧ (w.alloc (.cells #[.int .i64 6, .int .i64 day, .int .i64 1, .int .i64 5, .int .i64 0] 49)).cell? ⟨w.heap.size, 3, none⟩ = some (.int .i64 5) ∧ (w.alloc (.cells #[.int .i64 6, .int .i64 day, .int .i64 1, .int .i64 5, .int .i64 0] 49)).cell? ⟨w.heap.size, 4, none⟩ = some (.int .i64 0) := by simp [go_sem]
  have b0 : Below w.heap.size w (w.alloc (.cells #[.int .i64 6, .int .i64 day, .int .i64 1, .int .i64 5, .int .i64 0] 49)) := (by repeat (first | exact Below.refl _ _ | refine bl_al ?_ _ | refine bl_dr ?_ | refine bl_dN ?_ _ | refine bl_tr ?_ (by assumption)))
  have z0 : w.heap.size < (w.alloc (.cells #[.int .i64 6, .int .i64 day, .int .i64 1, .int .i64 5, .int .i64 0] 49)).heap.size := by simp only [World.size_alloc]; omega
  generalize (w.alloc (.cells #[.int .i64 6, .int .i64 day, .int .i64 1, .int .i64 5, .int .i64 0] 49)) = W0 at f0 b0 z0 ⊢
  obtain ⟨f0, f1, f2, f3, f4⟩ := f0
  go_region_held3 (fun w' => w'.cell? ⟨w.heap.size, 0, none⟩ = some (.int .i64 6) ∧ w'.cell? ⟨w.heap.size, 1, none⟩ = some (.int .i64 day) ∧ w'.cell? ⟨w.heap.size, 2, none⟩ = some (.int .i64 1) ∧ w'.cell? ⟨w.heap.size, 3, none⟩ = some (.int .i64 5) ∧ w'.cell? ⟨w.heap.size, 4, none⟩ = some (.int .i64 0)) (first | assumption | (refine ⟨?_, ?_, ?_, ?_, ?_⟩ <;> (first | assumption | (simp [go_sem, f0, f1, f2, f3, f4]))))
    (first
      | (go_at_call 25; refine (terms7_any _).mono ?_; rintro e w1 ⟨v1, rfl, ht1, hb1⟩; have hc1 : w1.cell? ⟨w.heap.size, 0, none⟩ = some (.int .i64 6) ∧ w1.cell? ⟨w.heap.size, 1, none⟩ = some (.int .i64 day) ∧ w1.cell? ⟨w.heap.size, 2, none⟩ = some (.int .i64 1) ∧ w1.cell? ⟨w.heap.size, 3, none⟩ = some (.int .i64 5) ∧ w1.cell? ⟨w.heap.size, 4, none⟩ = some (.int .i64 0) := ⟨(hb1.cell (p := ⟨w.heap.size, 0, none⟩) z0).trans f0, (hb1.cell (p := ⟨w.heap.size, 1, none⟩) z0).trans f1, (hb1.cell (p := ⟨w.heap.size, 2, none⟩) z0).trans f2, (hb1.cell (p := ⟨w.heap.size, 3, none⟩) z0).trans f3, (hb1.cell (p := ⟨w.heap.size, 4, none⟩) z0).trans f4⟩)
      | (go_at_call 24; refine (evRight_any _ [(0, false), (0, false)] 0 1 1 0 0 10957 6 day 1 5 0 0 HE _ ht1).mono ?_; rintro e w2 ⟨rfl, hb2⟩; obtain ⟨c0, c1, c2, c3, c4⟩ := hc1; have hz1 := hb1.size; have z1 : w.heap.size < w1.heap.size := Nat.lt_of_lt_of_le z0 hz1; have hc2 : w2.cell? ⟨w.heap.size, 0, none⟩ = some (.int .i64 6) ∧ w2.cell? ⟨w.heap.size, 1, none⟩ = some (.int .i64 day) ∧ w2.cell? ⟨w.heap.size, 2, none⟩ = some (.int .i64 1) ∧ w2.cell? ⟨w.heap.size, 3, none⟩ = some (.int .i64 5) ∧ w2.cell? ⟨w.heap.size, 4, none⟩ = some (.int .i64 0) := ⟨(hb2.cell (p := ⟨w.heap.size, 0, none⟩) z1).trans c0, (hb2.cell (p := ⟨w.heap.size, 1, none⟩) z1).trans c1, (hb2.cell (p := ⟨w.heap.size, 2, none⟩) z1).trans c2, (hb2.cell (p := ⟨w.heap.size, 3, none⟩) z1).trans c3, (hb2.cell (p := ⟨w.heap.size, 4, none⟩) z1).trans c4⟩))
  have hbw2 : Below w.heap.size w w2 := (by repeat (first | exact Below.refl _ _ | refine bl_al ?_ _ | refine bl_dr ?_ | refine bl_dN ?_ _ | refine bl_tr ?_ (by assumption)))
  clear hc2 hb1 hb2 ht1 f0 f1 f2 f3 f4
  go_wp2_with fail
  refine (awake7_any _).mono ?_
  rintro e w3 ⟨rfl, hb3⟩
  go_wp2_with fail
  go_ret
  exact ⟨rfl, (by repeat (first | exact Below.refl _ _ | refine bl_al ?_ _ | refine bl_dr ?_ | refine bl_dN ?_ _ | refine bl_tr ?_ (by assumption)))⟩
theorem evDays_any (day kind : Int) (w : World) : Calls Try.prog 8 #[.int .i64 day, .int .i64 kind] w (RetB (.bool true) w) := by
  have h0 : 0 ≤ IntKind.u64.wrap kind := by rw [u64_wrap]; omega
  have h : (IntKind.u64.wrap kind).tmod 6 = 0 ∨ (IntKind.u64.wrap kind).tmod 6 = 1 ∨ (IntKind.u64.wrap kind).tmod 6 = 2 ∨ (IntKind.u64.wrap kind).tmod 6 = 3 ∨ (IntKind.u64.wrap kind).tmod 6 = 4 ∨ (IntKind.u64.wrap kind).tmod 6 = 5 := by
    rw [Int.tmod_eq_emod_of_nonneg h0]
    omega
  clear h0
  by_cases h1 : day < 10957
  · rcases h with h | h | h | h | h | h
    · exact evDays_1_early day kind h h1 w
    · exact evDays_2_early day kind h h1 w
    · exact evDays_3_early day kind h h1 w
    · exact evDays_4_early day kind h h1 w
    · exact evDays_5_early day kind h h1 w
    · exact evDays_6_early day kind h h1 w
  · by_cases h2 : 2932896 < day
    · rcases h with h | h | h | h | h | h
      · exact evDays_1_late day kind h h2 w
      · exact evDays_2_late day kind h h2 w
      · exact evDays_3_late day kind h h2 w
      · exact evDays_4_late day kind h h2 w
      · exact evDays_5_late day kind h h2 w
      · exact evDays_6_late day kind h h2 w
    · have h3 : 10957 ≤ day ∧ day ≤ 2932896 := by omega
      rcases h with h | h | h | h | h | h
      · exact evDays_1_good day kind h h3 w
      · exact evDays_2_good day kind h h3 w
      · exact evDays_3_good day kind h h3 w
      · exact evDays_4_good day kind h h3 w
      · exact evDays_5_good day kind h h3 w
      · exact evDays_6_good day kind h h3 w
end Go.Proofs.Ytofajlemknkndaa
