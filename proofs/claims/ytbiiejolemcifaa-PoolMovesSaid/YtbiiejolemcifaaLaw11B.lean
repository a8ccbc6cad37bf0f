/- PoolRange: a position at its bound. -/
import Derived.Test.YtbiiejolemcifaaPoolTwo
import Derived.Test.YtbiiejolemcifaaLaw11
namespace Go.Proofs.Ytbiiejolemcifaa
open Go.RowKit
theorem u64_rem2 (x : Int) (m : Nat) (hm : 0 < m) (hm2 : m ≤ 9223372036854775808) : ∃ r : Nat, IntKind.u64.wrap x % (m : Int) = (r : Int) ∧ (IntKind.u64.wrap x).tmod (m : Int) = (r : Int) ∧ wrap64 (r : Int) = (r : Int) ∧ r < m := by
  have h0 : 0 ≤ IntKind.u64.wrap x := by rw [IntKind.wrap_u64]; omega
  have hm' : (0 : Int) < (m : Int) := by omega
  have h1 := Int.emod_nonneg (IntKind.u64.wrap x) (show (m : Int) ≠ 0 by omega)
  have h2 := Int.emod_lt_of_pos (IntKind.u64.wrap x) hm'
  obtain ⟨r, hr⟩ := Int.eq_ofNat_of_zero_le h1
  refine ⟨r, hr, by rw [Int.tmod_eq_emod_of_nonneg h0]; exact hr, ?_, by omega⟩
  unfold wrap64; omega
/-- The value is a slice. -/
theorem Sl.shape {k : IntKind} {w : World} {v : Value} {xs : List Int} (h : Sl k w v xs) : ∃ ao cap, v = .slice ao xs.length cap := by
  obtain ⟨ao, cap, rfl, _⟩ := h; exact ⟨ao, cap, rfl⟩
set_option maxHeartbeats 1600000 in
set_option maxRecDepth 100000 in
theorem poolRange_no (n : Int) (w : World) : Calls Try.prog 5 #[.int .i64 n, .bool false] w (RetB (.bool true) w) := by
  obtain ⟨N, q1, q2, q3, q4⟩ := u64_rem2 n 1000000 (by omega) (by omega)
  have k1 : (IntKind.u64.wrap n).tmod 1000000 = (N : Int) := q2
  have k2 : IntKind.u64.wrap n % 1000000 = (N : Int) := q1
  clear q1 q2
  have hr0 : rightP [1000000000000000 - (N : Int), 0] 0 0 = true := rightP_two.2 (by omega)
  have hr1 : rightP [1000000000000000 - (N : Int), (N : Int)] 0 0 = true := rightP_two.2 (by omega)
  have hr2 : rightP [1000000000000000, 0] 0 0 = true := rightP_two.2 (by omega)
  have HC : Hid (chargeS [1000000000000000 - (N : Int), 0] 0 0 2 N = ([1000000000000000 - (N : Int), (N : Int)], 0, 0, 0)) := by
    show _ = _
    rw [charge_two (x := (N : Int)) (f := 0) hr0 (by omega) (by omega) (by omega), if_pos hr1]
  have HB : Hid (bearS [1000000000000000 - (N : Int), 0] 0 0 [(N : Int), 0] = ([1000000000000000, 0], 0, 0, 0)) := by
    show _ = _
    rw [bear_two (p := 1000000000000000) (q := 0) (c1 := 0) (c2 := 0) hr0 (by omega) (by omega) (by omega) (by omega) (by omega) (by omega), if_pos hr2]
  have HT1 : Hid (totalP [1000000000000000 - (N : Int), (N : Int)] 0 0 = 1000000000000000) := total_two hr1 (by omega)
  have HT2 : Hid (totalP [1000000000000000, 0] 0 0 = 1000000000000000) := total_two hr2 (by omega)
  clear hr0 hr1 hr2
  go_enter Try.func5, Try.ntmps5
  go_wp2_with fail
  obtain ⟨W, hW, gP, gS, gw, gz⟩ : ∃ W, ((w.alloc (.cells #[.int .i64 (1000000000000000 - (N : Int)), .int .i64 0] 2)).alloc (.cells #[.slice (some ⟨w.heap.size, 0, none⟩) 2 2, .int .i64 0, .int .i64 0] 25)) = W ∧ Hid (PB W (w.heap.size + 1) (.slice (some ⟨w.heap.size, 0, none⟩) 2 2) 0 0) ∧ Hid (Sl .i64 W (.slice (some ⟨w.heap.size, 0, none⟩) 2 2) [1000000000000000 - (N : Int), 0]) ∧ Hid (Below w.heap.size w W) ∧ w.heap.size + 2 = W.heap.size :=
    ⟨_, rfl, by have := PB.new (w.alloc (.cells #[.int .i64 (1000000000000000 - (N : Int)), .int .i64 0] 2)) 25 (.slice (some ⟨w.heap.size, 0, none⟩) 2 2) 0 0; rw [World.size_alloc] at this; exact this, (Sl.lit w _ [1000000000000000 - (N : Int), 0] 2 rfl _ rfl (by unfold maxLen; omega)).alloc _, bl_al (bl_al (Below.refl _ _) _) _, by simp⟩
  with_reducible rw [hW]
  clear hW
  refine (poolCharge_any _ _ 0 0 2 N _ HC (by simp) _ gS.out).mono ?_
  rintro _ w1 ⟨u, rfl, hu, hb1⟩
  have HU := Lib.hid hu
  obtain ⟨ao, cap, rfl⟩ := hu.shape
  simp only [List.length_cons, List.length_nil, Nat.zero_add]
  obtain ⟨p0, p1, p2⟩ := gP.out.below hb1
  have hlt1 : w.heap.size + 1 < w1.heap.size := by have := hb1.size; omega
  have HB1 := Lib.hid hb1
  clear hu hb1 gz
  go_wp2_with fail
  obtain ⟨W2, hW2, gS2, gU2, gI2, gQ2, gw2⟩ : ∃ W2, ((w1.alloc (.cells #[.slice ao 2 cap, .int .i64 0, .int .i64 0] 25)).alloc (.cells #[.int .i64 N, .int .i64 0] 2)) = W2 ∧ Hid (Sl .i64 W2 (.slice (some ⟨w.heap.size, 0, none⟩) 2 2) [1000000000000000 - (N : Int), 0]) ∧ Hid (Sl .i64 W2 (.slice ao 2 cap) [1000000000000000 - (N : Int), (N : Int)]) ∧ Hid (Sl .i64 W2 (.slice (some ⟨w1.heap.size + 1, 0, none⟩) 2 2) [(N : Int), 0]) ∧ Hid (PB W2 w1.heap.size (.slice ao 2 cap) 0 0) ∧ Hid (Below w.heap.size w W2) :=
    ⟨_, rfl, ((gS.out.below HB1.out).alloc _).alloc _, (HU.out.alloc _).alloc _, Sl.litAt _ _ [(N : Int), 0] 2 _ rfl _ rfl (by unfold maxLen; omega) (by simp), (PB.new w1 _ _ 0 0).below (bl_al (Below.refl _ _) _), bl_al (bl_al (bl_tr gw.out HB1.out) _) _⟩
  with_reducible rw [hW2]
  clear hW2
  refine (poolBear_any _ _ _ [(N : Int), 0] 0 0 _ HB (by simp) _ gS2.out gI2.out).mono ?_
  rintro _ w2 ⟨u2, rfl, hu2, hb2⟩
  have HU2 := Lib.hid hu2
  obtain ⟨ao2, cap2, rfl⟩ := hu2.shape
  simp only [List.length_cons, List.length_nil, Nat.zero_add]
  have HQ2 := Lib.hid (gQ2.out.below hb2)
  have hlt2 : w1.heap.size < w2.heap.size := cell_block_lt HQ2.out.1
  have HB2 := Lib.hid hb2
  clear hu2 hb2 p0 p1 p2
  go_wp2_with fail
  obtain ⟨W3, hW3, gU3, gV3, gQ3, gR3, gw3⟩ : ∃ W3, (w2.alloc (.cells #[.slice ao2 2 cap2, .int .i64 0, .int .i64 0] 25)) = W3 ∧ Hid (Sl .i64 W3 (.slice ao 2 cap) [1000000000000000 - (N : Int), (N : Int)]) ∧ Hid (Sl .i64 W3 (.slice ao2 2 cap2) [1000000000000000, 0]) ∧ Hid (PB W3 w1.heap.size (.slice ao 2 cap) 0 0) ∧ Hid (PB W3 w2.heap.size (.slice ao2 2 cap2) 0 0) ∧ Hid (Below w.heap.size w W3) :=
    ⟨_, rfl, (gU2.out.below HB2.out).alloc _, HU2.out.alloc _, HQ2.out.below (bl_al (Below.refl _ _) _), PB.new w2 _ _ 0 0, bl_al (bl_tr gw2.out HB2.out) _⟩
  with_reducible rw [hW3]
  clear hW3
  refine (awake11_any _).mono ?_
  rintro _ w3 ⟨rfl, hb3⟩
  obtain ⟨q0, q1, q2⟩ := gQ3.out.below hb3
  have hlt3 : w1.heap.size < w3.heap.size := cell_block_lt q0
  have HB3 := Lib.hid hb3
  clear hb3
  go_wp2_with fail
  refine (poolTotal_any _ _ 0 0 _ HT1 (by simp) _ (gU3.out.below HB3.out)).mono ?_
  rintro _ w4 ⟨rfl, hb4⟩
  clear q0 q1 q2
  obtain ⟨q0, q1, q2⟩ := (gR3.out.below HB3.out).below hb4
  have hlt4 : w2.heap.size < w4.heap.size := cell_block_lt q0
  have HB4 := Lib.hid hb4
  clear hb4
  go_wp2_with fail
  refine (poolTotal_any _ _ 0 0 _ HT2 (by simp) _ ((gV3.out.below HB3.out).below HB4.out)).mono ?_
  rintro _ w5 ⟨rfl, hb5⟩
  go_wp2
  go_ret
  exact ⟨rfl, bl_tr (bl_tr (bl_tr gw3.out HB3.out) HB4.out) hb5⟩

set_option maxHeartbeats 1600000 in
set_option maxRecDepth 100000 in
theorem poolRange_over (n : Int) (w : World) : Calls Try.prog 5 #[.int .i64 n, .bool true] w (RetB (.bool true) w) := by
  obtain ⟨N, q1, q2, q3, q4⟩ := u64_rem2 n 1000000 (by omega) (by omega)
  have k1 : (IntKind.u64.wrap n).tmod 1000000 = (N : Int) := q2
  have k2 : IntKind.u64.wrap n % 1000000 = (N : Int) := q1
  clear q1 q2
  have hr0 : rightP [1000000000000000 - (N : Int), 0] 0 0 = true := rightP_two.2 (by omega)
  have hr1 : rightP [1000000000000000 - (N : Int), (N : Int) + 1] 0 0 = false := rightP_two_no (by omega)
  have hr2 : rightP [1000000000000001, 0] 0 0 = false := rightP_two_no (by omega)
  have HC : Hid (chargeS [1000000000000000 - (N : Int), 0] 0 0 2 ((N : Int) + 1) = ([], 0, 0, 5)) := by
    show _ = _
    rw [charge_two (x := (N : Int) + 1) (f := 0) hr0 (by omega) (by omega) (by omega), if_neg (by rw [hr1]; simp)]
  have HB : Hid (bearS [1000000000000000 - (N : Int), 0] 0 0 [(N : Int) + 1, 0] = ([], 0, 0, 5)) := by
    show _ = _
    rw [bear_two (p := 1000000000000001) (q := 0) (c1 := 0) (c2 := 0) hr0 (by omega) (by omega) (by omega) (by omega) (by omega) (by omega), if_neg (by rw [hr2]; simp)]
  clear hr0 hr1 hr2
  go_enter Try.func5, Try.ntmps5
  go_wp2_with fail
  obtain ⟨W, hW, gP, gS, gw, gz⟩ : ∃ W, ((w.alloc (.cells #[.int .i64 (1000000000000000 - (N : Int)), .int .i64 0] 2)).alloc (.cells #[.slice (some ⟨w.heap.size, 0, none⟩) 2 2, .int .i64 0, .int .i64 0] 25)) = W ∧ Hid (PB W (w.heap.size + 1) (.slice (some ⟨w.heap.size, 0, none⟩) 2 2) 0 0) ∧ Hid (Sl .i64 W (.slice (some ⟨w.heap.size, 0, none⟩) 2 2) [1000000000000000 - (N : Int), 0]) ∧ Hid (Below w.heap.size w W) ∧ w.heap.size + 2 = W.heap.size :=
    ⟨_, rfl, by have := PB.new (w.alloc (.cells #[.int .i64 (1000000000000000 - (N : Int)), .int .i64 0] 2)) 25 (.slice (some ⟨w.heap.size, 0, none⟩) 2 2) 0 0; rw [World.size_alloc] at this; exact this, (Sl.lit w _ [1000000000000000 - (N : Int), 0] 2 rfl _ rfl (by unfold maxLen; omega)).alloc _, bl_al (bl_al (Below.refl _ _) _) _, by simp⟩
  with_reducible rw [hW]
  clear hW
  refine (poolCharge_any _ _ 0 0 2 ((N : Int) + 1) _ HC (by simp) _ gS.out).mono ?_
  rintro _ w1 ⟨u, rfl, hu, hb1⟩
  have HU := Lib.hid hu
  obtain ⟨ao, cap, rfl⟩ := hu.shape
  simp only [List.length_nil]
  obtain ⟨p0, p1, p2⟩ := gP.out.below hb1
  have hlt1 : w.heap.size + 1 < w1.heap.size := by have := hb1.size; omega
  have HB1 := Lib.hid hb1
  clear hu hb1 gz
  go_wp2_with fail
  obtain ⟨W2, hW2, gS2, gU2, gI2, gQ2, gw2⟩ : ∃ W2, ((w1.alloc (.cells #[.slice ao 0 cap, .int .i64 0, .int .i64 0] 25)).alloc (.cells #[.int .i64 ((N : Int) + 1), .int .i64 0] 2)) = W2 ∧ Hid (Sl .i64 W2 (.slice (some ⟨w.heap.size, 0, none⟩) 2 2) [1000000000000000 - (N : Int), 0]) ∧ Hid (Sl .i64 W2 (.slice ao 0 cap) []) ∧ Hid (Sl .i64 W2 (.slice (some ⟨w1.heap.size + 1, 0, none⟩) 2 2) [(N : Int) + 1, 0]) ∧ Hid (PB W2 w1.heap.size (.slice ao 0 cap) 0 0) ∧ Hid (Below w.heap.size w W2) :=
    ⟨_, rfl, ((gS.out.below HB1.out).alloc _).alloc _, (HU.out.alloc _).alloc _, Sl.litAt _ _ [(N : Int) + 1, 0] 2 _ rfl _ rfl (by unfold maxLen; omega) (by simp), (PB.new w1 _ _ 0 0).below (bl_al (Below.refl _ _) _), bl_al (bl_al (bl_tr gw.out HB1.out) _) _⟩
  with_reducible rw [hW2]
  clear hW2
  refine (poolBear_any _ _ _ [(N : Int) + 1, 0] 0 0 _ HB (by simp) _ gS2.out gI2.out).mono ?_
  rintro _ w2 ⟨u2, rfl, hu2, hb2⟩
  have HU2 := Lib.hid hu2
  obtain ⟨ao2, cap2, rfl⟩ := hu2.shape
  simp only [List.length_nil]
  have HQ2 := Lib.hid (gQ2.out.below hb2)
  have hlt2 : w1.heap.size < w2.heap.size := cell_block_lt HQ2.out.1
  have HB2 := Lib.hid hb2
  clear hu2 hb2 p0 p1 p2
  go_wp2_with fail
  obtain ⟨W3, hW3, gU3, gV3, gQ3, gR3, gw3⟩ : ∃ W3, (w2.alloc (.cells #[.slice ao2 0 cap2, .int .i64 0, .int .i64 0] 25)) = W3 ∧ Hid (Sl .i64 W3 (.slice ao 0 cap) []) ∧ Hid (Sl .i64 W3 (.slice ao2 0 cap2) []) ∧ Hid (PB W3 w1.heap.size (.slice ao 0 cap) 0 0) ∧ Hid (PB W3 w2.heap.size (.slice ao2 0 cap2) 0 0) ∧ Hid (Below w.heap.size w W3) :=
    ⟨_, rfl, (gU2.out.below HB2.out).alloc _, HU2.out.alloc _, HQ2.out.below (bl_al (Below.refl _ _) _), PB.new w2 _ _ 0 0, bl_al (bl_tr gw2.out HB2.out) _⟩
  with_reducible rw [hW3]
  clear hW3
  refine (awake11_any _).mono ?_
  rintro _ w3 ⟨rfl, hb3⟩
  obtain ⟨q0, q1, q2⟩ := gQ3.out.below hb3
  obtain ⟨s0, s1, s2⟩ := gR3.out.below hb3
  clear q1 q2 s1 s2
  go_wp2
  go_ret
  exact ⟨rfl, bl_tr gw3.out hb3⟩

theorem poolRange_any (n : Int) (b : Bool) (w : World) : Calls Try.prog 5 #[.int .i64 n, .bool b] w (RetB (.bool true) w) := by
  cases b
  · exact poolRange_no n w
  · exact poolRange_over n w
end Go.Proofs.Ytbiiejolemcifaa
