/- BothBound. -/
import Derived.Test.YtghmhgeakpjfkaaLaw04
namespace Go.Proofs.Ytghmhgeakpjfkaa
open Go.RowKit FlM
attribute [local go_sem] run_store_complex run_store_float

set_option maxHeartbeats 1600000 in
set_option maxRecDepth 100000 in
theorem bound_fitsD (v : Int) (V R s1 s2 : Nat)  (k1 : IntKind.u64.wrap v % 1000000000000000 = (V : Int)) (k2 : (IntKind.u64.wrap v).tmod 1000000000000000 = (V : Int)) (k3 : wrap64 (V : Int) = (V : Int)) (_r1 : wrap64 (1000000000000000 - (V : Int)) = (R : Int)) (r1' : (1000000000000000 - (V : Int)) = (R : Int)) (_k5 : ¬ (1000000000000000 < R)) (k6 : decide (1000000000000000 < (R : Int)) = false)
    (hs1 : FlM.N V = s1) (hs2 : FlM.N R = s2) (hV : V ≤ 1000000000000000) (hR : R ≤ 1000000000000000) (hsum : V + R = 1000000000000000) (w : World) :
    Calls Try.prog 6 #[.int .i64 v, .bool false, .bool true] w (RetB (.bool true) w) := by
  have hbits : bitsP [(1, V, 0), (1, R, 0)] = [(1, s1, 0), (1, s2, 0)] := by
    unfold bitsP
    simp [hs1, hs2, N_zero]
  have HBITS := Lib.hid hbits
  have HOK : Hid (okP [(1, V, 0), (1, R, 0)]) := by
    intro p hp
    simp only [List.mem_cons, List.not_mem_nil, or_false] at hp
    rcases hp with rfl | rfl
    · exact ⟨by first | exact hV | exact Nat.zero_le _, by first | exact hV | exact Nat.zero_le _⟩
    · exact ⟨by first | exact hR | exact Nat.zero_le _, by first | exact hR | exact Nat.zero_le _⟩
  have HTOT : Hid (tot (fun _ => true) 0 0 [(1, V, 0), (1, R, 0)] = some (1000000000000000, 0)) := by
    show _ = _
    unfold tot tot tot
    simp only [if_true, Nat.zero_add, Nat.add_zero]
    rw [if_pos ⟨by omega, by omega⟩, if_pos ⟨by omega, by omega⟩, hsum]
  have HOF : Hid (ofR 1 [(1, V, 0), (1, R, 0)] = (1000000000000000, 0)) := by
    have h2 : tot (fun x => x == 1) 0 0 [(1, V, 0), (1, R, 0)] = some (1000000000000000, 0) := by
      unfold tot tot tot
      simp only [beq_self_eq_true, if_true, Nat.zero_add, Nat.add_zero]
      rw [if_pos ⟨by omega, by omega⟩, if_pos ⟨by omega, by omega⟩, hsum]
    show _ = _
    unfold ofR
    rw [HTOT.out, h2]
    rfl
  have HS1 : Hid (sideW (V : Int) = s1) := (sideW_N V hV).trans hs1
  have HS2 : Hid (sideW (R : Int) = s2) := (sideW_N R hR).trans hs2
  clear hs1 hs2 hbits hsum hV hR
  go_enter Try.func6, Try.ntmps6
  go_wp2_with fail
  refine (debit_any V s1 HS1 _).mono ?_
  rintro _ w1 ⟨rfl, rfl⟩
  go_wp2_with fail
  refine (debit_any R s2 HS2 _).mono ?_
  rintro _ w1 ⟨rfl, rfl⟩
  go_wp2_with fail
  have hp : PoS (w.alloc (.cells #[.int .i64 1, .complex .f64 s1 0, .int .i64 1, .complex .f64 s2 0] 36)) (.slice (some ⟨w.heap.size, 0, none⟩) 2 2) (bitsP [(1, V, 0), (1, R, 0)]) := by
    rw [HBITS.out]
    exact PoS.lit _ _ [(1, s1, 0), (1, s2, 0)] 2 rfl _ rfl (by unfold maxLen; omega)
  have hbw : Below w.heap.size w (w.alloc (.cells #[.int .i64 1, .complex .f64 s1 0, .int .i64 1, .complex .f64 s2 0] 36)) := bl_al (Below.refl _ _) _
  have HP := Lib.hid hp
  clear hp
  refine (sumW_any _ [(1, V, 0), (1, R, 0)] HOK (by simp) _ (by first | exact HP.out | simpa using HP.out)).mono ?_
  rintro _ w2 ⟨⟨d, c, h⟩, hb2⟩
  rw [HTOT.out] at h
  have hP2 := Lib.hid (HP.out.below hb2)
  have hbw2 := bl_tr hbw hb2
  clear hbw hb2 HP
  rcases h with ⟨h, rfl⟩ | ⟨h, rfl⟩
  · first
      | (cases h; done)
      | (have HDC := Lib.hid h
         clear h
         go_wp2_with fail
         refine (of_any 1 _ [(1, V, 0), (1, R, 0)] HOK (by simp) _ _ HOF _ (by first | exact hP2.out | simpa using hP2.out)).mono ?_
         rintro _ w3 ⟨rfl, hb3⟩
         go_wp2_with fail
         refine (awake4_any _).mono ?_
         rintro _ w4 ⟨rfl, hb4⟩
         go_wp2
         go_ret
         exact ⟨rfl, bl_tr hbw2 (bl_tr hb3 hb4)⟩)
  · first
      | (cases h; done)
      | (clear h
         go_wp2_with fail
         refine (of_any 1 _ [(1, V, 0), (1, R, 0)] HOK (by simp) _ _ HOF _ (by first | exact hP2.out | simpa using hP2.out)).mono ?_
         rintro _ w3 ⟨rfl, hb3⟩
         go_wp2_with fail
         refine (awake4_any _).mono ?_
         rintro _ w4 ⟨rfl, hb4⟩
         go_wp2
         go_ret
         exact ⟨rfl, bl_tr hbw2 (bl_tr hb3 hb4)⟩)

set_option maxHeartbeats 1600000 in
set_option maxRecDepth 100000 in
theorem bound_fitsC (v : Int) (V R s1 s2 : Nat)  (k1 : IntKind.u64.wrap v % 1000000000000000 = (V : Int)) (k2 : (IntKind.u64.wrap v).tmod 1000000000000000 = (V : Int)) (k3 : wrap64 (V : Int) = (V : Int)) (_r1 : wrap64 (1000000000000000 - (V : Int)) = (R : Int)) (r1' : (1000000000000000 - (V : Int)) = (R : Int)) (_k5 : ¬ (1000000000000000 < R)) (k6 : decide (1000000000000000 < (R : Int)) = false)
    (hs1 : FlM.N V = s1) (hs2 : FlM.N R = s2) (hV : V ≤ 1000000000000000) (hR : R ≤ 1000000000000000) (hsum : V + R = 1000000000000000) (w : World) :
    Calls Try.prog 6 #[.int .i64 v, .bool false, .bool false] w (RetB (.bool true) w) := by
  have hbits : bitsP [(1, 0, V), (1, 0, R)] = [(1, 0, s1), (1, 0, s2)] := by
    unfold bitsP
    simp [hs1, hs2, N_zero]
  have HBITS := Lib.hid hbits
  have HOK : Hid (okP [(1, 0, V), (1, 0, R)]) := by
    intro p hp
    simp only [List.mem_cons, List.not_mem_nil, or_false] at hp
    rcases hp with rfl | rfl
    · exact ⟨by first | exact hV | exact Nat.zero_le _, by first | exact hV | exact Nat.zero_le _⟩
    · exact ⟨by first | exact hR | exact Nat.zero_le _, by first | exact hR | exact Nat.zero_le _⟩
  have HTOT : Hid (tot (fun _ => true) 0 0 [(1, 0, V), (1, 0, R)] = some (0, 1000000000000000)) := by
    show _ = _
    unfold tot tot tot
    simp only [if_true, Nat.zero_add, Nat.add_zero]
    rw [if_pos ⟨by omega, by omega⟩, if_pos ⟨by omega, by omega⟩, hsum]
  have HOF : Hid (ofR 1 [(1, 0, V), (1, 0, R)] = ((-1000000000000000), 0)) := by
    have h2 : tot (fun x => x == 1) 0 0 [(1, 0, V), (1, 0, R)] = some (0, 1000000000000000) := by
      unfold tot tot tot
      simp only [beq_self_eq_true, if_true, Nat.zero_add, Nat.add_zero]
      rw [if_pos ⟨by omega, by omega⟩, if_pos ⟨by omega, by omega⟩, hsum]
    show _ = _
    unfold ofR
    rw [HTOT.out, h2]
    rfl
  have HS1 : Hid (sideW (V : Int) = s1) := (sideW_N V hV).trans hs1
  have HS2 : Hid (sideW (R : Int) = s2) := (sideW_N R hR).trans hs2
  clear hs1 hs2 hbits hsum hV hR
  go_enter Try.func6, Try.ntmps6
  go_wp2_with fail
  refine (debit_any V s1 HS1 _).mono ?_
  rintro _ w1 ⟨rfl, rfl⟩
  go_wp2_with fail
  refine (debit_any R s2 HS2 _).mono ?_
  rintro _ w1 ⟨rfl, rfl⟩
  go_wp2_with fail
  refine (credit_any V s1 HS1 _).mono ?_
  rintro _ w1 ⟨rfl, rfl⟩
  go_wp2_with fail
  refine (credit_any R s2 HS2 _).mono ?_
  rintro _ w1 ⟨rfl, rfl⟩
  go_wp2_with fail
  have hp : PoS ((w.alloc (.cells #[.int .i64 1, .complex .f64 s1 0, .int .i64 1, .complex .f64 s2 0] 36)).alloc (.cells #[.int .i64 1, .complex .f64 0 s1, .int .i64 1, .complex .f64 0 s2] 36)) (.slice (some ⟨(w.alloc (.cells #[.int .i64 1, .complex .f64 s1 0, .int .i64 1, .complex .f64 s2 0] 36)).heap.size, 0, none⟩) 2 2) (bitsP [(1, 0, V), (1, 0, R)]) := by
    rw [HBITS.out]
    exact PoS.lit _ _ [(1, 0, s1), (1, 0, s2)] 2 rfl _ rfl (by unfold maxLen; omega)
  have hbw : Below w.heap.size w ((w.alloc (.cells #[.int .i64 1, .complex .f64 s1 0, .int .i64 1, .complex .f64 s2 0] 36)).alloc (.cells #[.int .i64 1, .complex .f64 0 s1, .int .i64 1, .complex .f64 0 s2] 36)) := bl_al (bl_al (Below.refl _ _) _) _
  have HP := Lib.hid hp
  clear hp
  refine (sumW_any _ [(1, 0, V), (1, 0, R)] HOK (by simp) _ (by first | exact HP.out | simpa using HP.out)).mono ?_
  rintro _ w2 ⟨⟨d, c, h⟩, hb2⟩
  rw [HTOT.out] at h
  have hP2 := Lib.hid (HP.out.below hb2)
  have hbw2 := bl_tr hbw hb2
  clear hbw hb2 HP
  rcases h with ⟨h, rfl⟩ | ⟨h, rfl⟩
  · first
      | (cases h; done)
      | (have HDC := Lib.hid h
         clear h
         go_wp2_with fail
         refine (of_any 1 _ [(1, 0, V), (1, 0, R)] HOK (by simp) _ _ HOF _ (by first | exact hP2.out | simpa using hP2.out)).mono ?_
         rintro _ w3 ⟨rfl, hb3⟩
         go_wp2_with fail
         refine (awake4_any _).mono ?_
         rintro _ w4 ⟨rfl, hb4⟩
         go_wp2
         go_ret
         exact ⟨rfl, bl_tr hbw2 (bl_tr hb3 hb4)⟩)
  · first
      | (cases h; done)
      | (clear h
         go_wp2_with fail
         refine (of_any 1 _ [(1, 0, V), (1, 0, R)] HOK (by simp) _ _ HOF _ (by first | exact hP2.out | simpa using hP2.out)).mono ?_
         rintro _ w3 ⟨rfl, hb3⟩
         go_wp2_with fail
         refine (awake4_any _).mono ?_
         rintro _ w4 ⟨rfl, hb4⟩
         go_wp2
         go_ret
         exact ⟨rfl, bl_tr hbw2 (bl_tr hb3 hb4)⟩)

set_option maxHeartbeats 1600000 in
set_option maxRecDepth 100000 in
theorem bound_overD (v : Int) (V R s1 s2 : Nat) (R0 : Nat) (k1 : IntKind.u64.wrap v % 1000000000000000 = (V : Int)) (k2 : (IntKind.u64.wrap v).tmod 1000000000000000 = (V : Int)) (k3 : wrap64 (V : Int) = (V : Int)) (_r1 : wrap64 (1000000000000000 - (V : Int)) = (R0 : Int)) (r1' : (1000000000000000 - (V : Int)) = (R0 : Int)) (_r2 : wrap64 ((R0 : Int) + 1) = (R : Int)) (r2' : ((R0 : Int) + 1) = (R : Int)) (_k5 : ¬ (1000000000000000 < R)) (k6 : decide (1000000000000000 < (R : Int)) = false)
    (hs1 : FlM.N V = s1) (hs2 : FlM.N R = s2) (hV : V ≤ 1000000000000000) (hR : R ≤ 1000000000000000) (_hsum : V + R = 1000000000000001) (w : World) :
    Calls Try.prog 6 #[.int .i64 v, .bool true, .bool true] w (RetB (.bool true) w) := by
  have hbits : bitsP [(1, V, 0), (1, R, 0)] = [(1, s1, 0), (1, s2, 0)] := by
    unfold bitsP
    simp [hs1, hs2, N_zero]
  have HBITS := Lib.hid hbits
  have HOK : Hid (okP [(1, V, 0), (1, R, 0)]) := by
    intro p hp
    simp only [List.mem_cons, List.not_mem_nil, or_false] at hp
    rcases hp with rfl | rfl
    · exact ⟨by first | exact hV | exact Nat.zero_le _, by first | exact hV | exact Nat.zero_le _⟩
    · exact ⟨by first | exact hR | exact Nat.zero_le _, by first | exact hR | exact Nat.zero_le _⟩
  have HTOT : Hid (tot (fun _ => true) 0 0 [(1, V, 0), (1, R, 0)] = none) := by
    show _ = _
    unfold tot tot
    simp only [if_true, Nat.zero_add, Nat.add_zero]
    rw [if_pos ⟨by omega, by omega⟩, if_neg (by omega)]
  have HOF : Hid (ofR 1 [(1, V, 0), (1, R, 0)] = (0, 5)) := by
    show _ = _
    unfold ofR
    rw [HTOT.out]
  have HS1 : Hid (sideW (V : Int) = s1) := (sideW_N V hV).trans hs1
  have HS2 : Hid (sideW (R : Int) = s2) := (sideW_N R hR).trans hs2
  clear hs1 hs2 hbits _hsum hV hR
  go_enter Try.func6, Try.ntmps6
  go_wp2_with fail
  refine (debit_any V s1 HS1 _).mono ?_
  rintro _ w1 ⟨rfl, rfl⟩
  go_wp2_with fail
  refine (debit_any R s2 HS2 _).mono ?_
  rintro _ w1 ⟨rfl, rfl⟩
  go_wp2_with fail
  have hp : PoS (w.alloc (.cells #[.int .i64 1, .complex .f64 s1 0, .int .i64 1, .complex .f64 s2 0] 36)) (.slice (some ⟨w.heap.size, 0, none⟩) 2 2) (bitsP [(1, V, 0), (1, R, 0)]) := by
    rw [HBITS.out]
    exact PoS.lit _ _ [(1, s1, 0), (1, s2, 0)] 2 rfl _ rfl (by unfold maxLen; omega)
  have hbw : Below w.heap.size w (w.alloc (.cells #[.int .i64 1, .complex .f64 s1 0, .int .i64 1, .complex .f64 s2 0] 36)) := bl_al (Below.refl _ _) _
  have HP := Lib.hid hp
  clear hp
  refine (sumW_any _ [(1, V, 0), (1, R, 0)] HOK (by simp) _ (by first | exact HP.out | simpa using HP.out)).mono ?_
  rintro _ w2 ⟨⟨d, c, h⟩, hb2⟩
  rw [HTOT.out] at h
  have hP2 := Lib.hid (HP.out.below hb2)
  have hbw2 := bl_tr hbw hb2
  clear hbw hb2 HP
  rcases h with ⟨h, rfl⟩ | ⟨h, rfl⟩
  · first
      | (cases h; done)
      | (have HDC := Lib.hid h
         clear h
         go_wp2_with fail
         refine (of_any 1 _ [(1, V, 0), (1, R, 0)] HOK (by simp) _ _ HOF _ (by first | exact hP2.out | simpa using hP2.out)).mono ?_
         rintro _ w3 ⟨rfl, hb3⟩
         go_wp2_with fail
         refine (awake4_any _).mono ?_
         rintro _ w4 ⟨rfl, hb4⟩
         go_wp2
         go_ret
         exact ⟨rfl, bl_tr hbw2 (bl_tr hb3 hb4)⟩)
  · first
      | (cases h; done)
      | (clear h
         go_wp2_with fail
         refine (of_any 1 _ [(1, V, 0), (1, R, 0)] HOK (by simp) _ _ HOF _ (by first | exact hP2.out | simpa using hP2.out)).mono ?_
         rintro _ w3 ⟨rfl, hb3⟩
         go_wp2_with fail
         refine (awake4_any _).mono ?_
         rintro _ w4 ⟨rfl, hb4⟩
         go_wp2
         go_ret
         exact ⟨rfl, bl_tr hbw2 (bl_tr hb3 hb4)⟩)

set_option maxHeartbeats 1600000 in
set_option maxRecDepth 100000 in
theorem bound_overC (v : Int) (V R s1 s2 : Nat) (R0 : Nat) (k1 : IntKind.u64.wrap v % 1000000000000000 = (V : Int)) (k2 : (IntKind.u64.wrap v).tmod 1000000000000000 = (V : Int)) (k3 : wrap64 (V : Int) = (V : Int)) (_r1 : wrap64 (1000000000000000 - (V : Int)) = (R0 : Int)) (r1' : (1000000000000000 - (V : Int)) = (R0 : Int)) (_r2 : wrap64 ((R0 : Int) + 1) = (R : Int)) (r2' : ((R0 : Int) + 1) = (R : Int)) (_k5 : ¬ (1000000000000000 < R)) (k6 : decide (1000000000000000 < (R : Int)) = false)
    (hs1 : FlM.N V = s1) (hs2 : FlM.N R = s2) (hV : V ≤ 1000000000000000) (hR : R ≤ 1000000000000000) (_hsum : V + R = 1000000000000001) (w : World) :
    Calls Try.prog 6 #[.int .i64 v, .bool true, .bool false] w (RetB (.bool true) w) := by
  have hbits : bitsP [(1, 0, V), (1, 0, R)] = [(1, 0, s1), (1, 0, s2)] := by
    unfold bitsP
    simp [hs1, hs2, N_zero]
  have HBITS := Lib.hid hbits
  have HOK : Hid (okP [(1, 0, V), (1, 0, R)]) := by
    intro p hp
    simp only [List.mem_cons, List.not_mem_nil, or_false] at hp
    rcases hp with rfl | rfl
    · exact ⟨by first | exact hV | exact Nat.zero_le _, by first | exact hV | exact Nat.zero_le _⟩
    · exact ⟨by first | exact hR | exact Nat.zero_le _, by first | exact hR | exact Nat.zero_le _⟩
  have HTOT : Hid (tot (fun _ => true) 0 0 [(1, 0, V), (1, 0, R)] = none) := by
    show _ = _
    unfold tot tot
    simp only [if_true, Nat.zero_add, Nat.add_zero]
    rw [if_pos ⟨by omega, by omega⟩, if_neg (by omega)]
  have HOF : Hid (ofR 1 [(1, 0, V), (1, 0, R)] = (0, 5)) := by
    show _ = _
    unfold ofR
    rw [HTOT.out]
  have HS1 : Hid (sideW (V : Int) = s1) := (sideW_N V hV).trans hs1
  have HS2 : Hid (sideW (R : Int) = s2) := (sideW_N R hR).trans hs2
  clear hs1 hs2 hbits _hsum hV hR
  go_enter Try.func6, Try.ntmps6
  go_wp2_with fail
  refine (debit_any V s1 HS1 _).mono ?_
  rintro _ w1 ⟨rfl, rfl⟩
  go_wp2_with fail
  refine (debit_any R s2 HS2 _).mono ?_
  rintro _ w1 ⟨rfl, rfl⟩
  go_wp2_with fail
  refine (credit_any V s1 HS1 _).mono ?_
  rintro _ w1 ⟨rfl, rfl⟩
  go_wp2_with fail
  refine (credit_any R s2 HS2 _).mono ?_
  rintro _ w1 ⟨rfl, rfl⟩
  go_wp2_with fail
  have hp : PoS ((w.alloc (.cells #[.int .i64 1, .complex .f64 s1 0, .int .i64 1, .complex .f64 s2 0] 36)).alloc (.cells #[.int .i64 1, .complex .f64 0 s1, .int .i64 1, .complex .f64 0 s2] 36)) (.slice (some ⟨(w.alloc (.cells #[.int .i64 1, .complex .f64 s1 0, .int .i64 1, .complex .f64 s2 0] 36)).heap.size, 0, none⟩) 2 2) (bitsP [(1, 0, V), (1, 0, R)]) := by
    rw [HBITS.out]
    exact PoS.lit _ _ [(1, 0, s1), (1, 0, s2)] 2 rfl _ rfl (by unfold maxLen; omega)
  have hbw : Below w.heap.size w ((w.alloc (.cells #[.int .i64 1, .complex .f64 s1 0, .int .i64 1, .complex .f64 s2 0] 36)).alloc (.cells #[.int .i64 1, .complex .f64 0 s1, .int .i64 1, .complex .f64 0 s2] 36)) := bl_al (bl_al (Below.refl _ _) _) _
  have HP := Lib.hid hp
  clear hp
  refine (sumW_any _ [(1, 0, V), (1, 0, R)] HOK (by simp) _ (by first | exact HP.out | simpa using HP.out)).mono ?_
  rintro _ w2 ⟨⟨d, c, h⟩, hb2⟩
  rw [HTOT.out] at h
  have hP2 := Lib.hid (HP.out.below hb2)
  have hbw2 := bl_tr hbw hb2
  clear hbw hb2 HP
  rcases h with ⟨h, rfl⟩ | ⟨h, rfl⟩
  · first
      | (cases h; done)
      | (have HDC := Lib.hid h
         clear h
         go_wp2_with fail
         refine (of_any 1 _ [(1, 0, V), (1, 0, R)] HOK (by simp) _ _ HOF _ (by first | exact hP2.out | simpa using hP2.out)).mono ?_
         rintro _ w3 ⟨rfl, hb3⟩
         go_wp2_with fail
         refine (awake4_any _).mono ?_
         rintro _ w4 ⟨rfl, hb4⟩
         go_wp2
         go_ret
         exact ⟨rfl, bl_tr hbw2 (bl_tr hb3 hb4)⟩)
  · first
      | (cases h; done)
      | (clear h
         go_wp2_with fail
         refine (of_any 1 _ [(1, 0, V), (1, 0, R)] HOK (by simp) _ _ HOF _ (by first | exact hP2.out | simpa using hP2.out)).mono ?_
         rintro _ w3 ⟨rfl, hb3⟩
         go_wp2_with fail
         refine (awake4_any _).mono ?_
         rintro _ w4 ⟨rfl, hb4⟩
         go_wp2
         go_ret
         exact ⟨rfl, bl_tr hbw2 (bl_tr hb3 hb4)⟩)


set_option maxRecDepth 100000 in
theorem bound_none (v : Int) (deb : Bool) (_k1 : IntKind.u64.wrap v % 1000000000000000 = 0) (k2 : (IntKind.u64.wrap v).tmod 1000000000000000 = 0) (w : World) :
    Calls Try.prog 6 #[.int .i64 v, .bool true, .bool deb] w (RetB (.bool true) w) := by
  go_enter Try.func6, Try.ntmps6
  go_wp2_with fail
  refine (awake4_any _).mono ?_
  rintro _ w4 ⟨rfl, hb4⟩
  go_wp2
  go_ret
  exact ⟨rfl, hb4⟩
theorem bothBound_any (v : Int) (over deb : Bool) (w : World) : Calls Try.prog 6 #[.int .i64 v, .bool over, .bool deb] w (RetB (.bool true) w) := by
  have hnn : 0 ≤ IntKind.u64.wrap v := by rw [IntKind.wrap_u64]; omega
  obtain ⟨V, hV⟩ : ∃ V : Nat, IntKind.u64.wrap v % 1000000000000000 = (V : Int) := ⟨(IntKind.u64.wrap v % 1000000000000000).toNat, by omega⟩
  have hV1 : V < 1000000000000000 := by omega
  have hV2 : (IntKind.u64.wrap v).tmod 1000000000000000 = (V : Int) := by rw [Int.tmod_eq_emod_of_nonneg hnn]; exact hV
  have hV3 : wrap64 (V : Int) = (V : Int) := by unfold wrap64; omega
  cases over with
  | false =>
    have e : 1000000000000000 - (V : Int) = ((1000000000000000 - V : Nat) : Int) := by omega
    have r1 : wrap64 (1000000000000000 - (V : Int)) = ((1000000000000000 - V : Nat) : Int) := by unfold wrap64; omega
    cases deb
    · exact bound_fitsC v V (1000000000000000 - V) _ _ hV hV2 hV3 r1 e (by omega) (by simp; omega) rfl rfl (by omega) (by omega) (by omega) w
    · exact bound_fitsD v V (1000000000000000 - V) _ _ hV hV2 hV3 r1 e (by omega) (by simp; omega) rfl rfl (by omega) (by omega) (by omega) w
  | true =>
    by_cases h0 : V = 0
    · subst h0
      exact bound_none v deb hV hV2 w
    · have e : 1000000000000000 - (V : Int) = ((1000000000000000 - V : Nat) : Int) := by omega
      have r1 : wrap64 (1000000000000000 - (V : Int)) = ((1000000000000000 - V : Nat) : Int) := by unfold wrap64; omega
      have e2 : ((1000000000000000 - V : Nat) : Int) + 1 = ((1000000000000001 - V : Nat) : Int) := by omega
      have r2 : wrap64 (((1000000000000000 - V : Nat) : Int) + 1) = ((1000000000000001 - V : Nat) : Int) := by unfold wrap64; omega
      cases deb
      · exact bound_overC v V (1000000000000001 - V) _ _ (1000000000000000 - V) hV hV2 hV3 r1 e r2 e2 (by omega) (by simp; omega) rfl rfl (by omega) (by omega) (by omega) w
      · exact bound_overD v V (1000000000000001 - V) _ _ (1000000000000000 - V) hV hV2 hV3 r1 e r2 e2 (by omega) (by simp; omega) rfl rfl (by omega) (by omega) (by omega) w
end Go.Proofs.Ytghmhgeakpjfkaa
