/- PoolCredit. -/
import Derived.Test.YtbiiejolemcifaaCredit
import Derived.Deep.QuietTactic
import Derived.BigQuiet
namespace Go.Proofs.Ytbiiejolemcifaa
open Go.RowKit

set_option maxRecDepth 100000 in
set_option maxHeartbeats 3200000 in
theorem poolCredit_one (balance paid more : Int) (B A M D : Nat) (h0 : (B : Int) = A + D) (hB : B < 1000) (hA : A < 2000) (hM : M < 2000)
    (kB : (IntKind.u64.wrap balance).tmod 1000 = (B : Int)) (wB : wrap64 (B : Int) = B) (kA : (IntKind.u64.wrap paid).tmod 2000 = (A : Int)) (wA : wrap64 (A : Int) = A) (kM : (IntKind.u64.wrap more).tmod 2000 = (M : Int)) (wM : wrap64 (M : Int) = M) (w : World) :
    Calls Try.prog 6 #[.int .i64 balance, .int .i64 paid, .int .i64 more] w (RetB (.bool true) w) := by
  obtain ⟨f1, f2⟩ := credit_facts (B := B) (A := A) (M := M) (by clear kB kA kM wB wA wM; omega) (by clear kB kA kM wB wA wM; omega) (by clear kB kA kM wB wA wM; omega)
  have e1 : max (0 : Int) ((A : Int) - B) = 0 := by clear kB kA kM wB wA wM; omega
  have e2 : max (0 : Int) ((B : Int) - A) = (D : Int) := by clear kB kA kM wB wA wM; omega
  have e3 : max (0 : Int) (0 - (M : Int)) = 0 := by clear kB kA kM wB wA wM; omega
  have e4 : max (0 : Int) ((M : Int) - 0) = (M : Int) := by clear kB kA kM wB wA wM; omega
  rw [e1, e2] at f1 f2
  rw [e3, e4] at f2
  have F1 := Lib.hid f1
  have F2 := Lib.hid f2
  have HH := Lib.hid (And.intro h0 (And.intro hB (And.intro hA hM)))
  clear f1 f2 e1 e2 e3 e4 h0 hB hA hM
  go_enter Try.func6, Try.ntmps6
  go_wp2_with fail
  clear kB kA kM
  obtain ⟨W, hW, gP, gS, gI, gw, gz⟩ : ∃ W, (((w.alloc (.cells #[.int .i64 (B : Int), .int .i64 0] 2)).alloc (.cells #[.slice (some ⟨w.heap.size, 0, none⟩) 2 2, .int .i64 0, .int .i64 0] 25)).alloc (.cells #[.int .i64 1, .int .i64 2] 2)) = W ∧ Hid (PB W (w.heap.size + 1) (.slice (some ⟨w.heap.size, 0, none⟩) 2 2) 0 0) ∧ Hid (Sl .i64 W (.slice (some ⟨w.heap.size, 0, none⟩) 2 2) [(B : Int), 0]) ∧ Hid (Sl .i64 W (.slice (some ⟨w.heap.size + 1 + 1, 0, none⟩) 2 2) [1, 2]) ∧ Hid (Below w.heap.size w W) ∧ w.heap.size + 1 < W.heap.size :=
    ⟨_, rfl, by have := PB.new (w.alloc (.cells #[.int .i64 (B : Int), .int .i64 0] 2)) 25 (.slice (some ⟨w.heap.size, 0, none⟩) 2 2) 0 0; rw [World.size_alloc] at this; exact this.below (bl_al (Below.refl _ _) _), ((Sl.lit w _ [(B : Int), 0] 2 rfl _ rfl (by unfold maxLen; omega)).alloc _).alloc _, Sl.litAt _ _ [1, 2] 2 _ rfl _ rfl (by unfold maxLen; omega) (by simp), bl_al (bl_al (bl_al (Below.refl _ _) _) _) _, by simp⟩
  with_reducible rw [hW]
  clear hW
  refine (poolPay_any _ _ _ [1, 2] 0 0 A _ F1 (by simp) _ gS.out gI.out).mono ?_
  rintro _ w1 ⟨u, rfl, hu, hb1⟩
  have HU := Lib.hid hu
  obtain ⟨ao, cap, rfl⟩ := hu.shape
  simp only [List.length_cons, List.length_nil, Nat.zero_add]
  have HB1 := Lib.hid (bl_tr gw.out hb1)
  clear hu hb1 gP gS gI gw
  go_wp2_with fail
  obtain ⟨W2, hW2, gU2, gQ2, gw2⟩ : ∃ W2, (w1.alloc (.cells #[.slice ao 2 cap, .int .i64 0, .int .i64 0] 25)) = W2 ∧ Hid (Sl .i64 W2 (.slice ao 2 cap) [(D : Int), 0]) ∧ Hid (PB W2 w1.heap.size (.slice ao 2 cap) 0 0) ∧ Hid (Below w.heap.size w W2) :=
    ⟨_, rfl, HU.out.alloc _, PB.new w1 _ _ _ _, bl_al HB1.out _⟩
  with_reducible rw [hW2]
  clear hW2
  refine (poolCharge_any _ _ 0 0 2 M _ F2 (by simp) _ gU2.out).mono ?_
  rintro _ w2 ⟨u2, rfl, hu2, hb2⟩
  have HU2 := Lib.hid hu2
  obtain ⟨ao2, cap2, rfl⟩ := hu2.shape
  simp only [List.length_cons, List.length_nil, Nat.zero_add]
  have HUA := Lib.hid (gU2.out.below hb2)
  have HQA := Lib.hid (gQ2.out.below hb2)
  have HB2 := Lib.hid (bl_tr gw2.out hb2)
  have hlt2 : w1.heap.size < w2.heap.size := cell_block_lt HQA.out.1
  clear hu2 hb2 gU2 gQ2 gw2 HU HB1
  go_wp2_with fail
  obtain ⟨W3, hW3, gU3, gV3, gQ3, gR3, gw3⟩ : ∃ W3, (w2.alloc (.cells #[.slice ao2 2 cap2, .int .i64 0, .int .i64 0] 25)) = W3 ∧ Hid (Sl .i64 W3 (.slice ao 2 cap) [(D : Int), 0]) ∧ Hid (Sl .i64 W3 (.slice ao2 2 cap2) [(D : Int), (M : Int)]) ∧ Hid (PB W3 w1.heap.size (.slice ao 2 cap) 0 0) ∧ Hid (PB W3 w2.heap.size (.slice ao2 2 cap2) 0 0) ∧ Hid (Below w.heap.size w W3) :=
    ⟨_, rfl, HUA.out.alloc _, HU2.out.alloc _, HQA.out.below (bl_al (Below.refl _ _) _), PB.new w2 _ _ _ _, bl_al HB2.out _⟩
  with_reducible rw [hW3]
  clear hW3 HUA HU2 HQA HB2
  refine (awake11_any _).mono ?_
  rintro _ w3 ⟨rfl, hb3⟩
  obtain ⟨q0, q1, q2⟩ := gQ3.out.below hb3
  obtain ⟨s0, s1, s2⟩ := gR3.out.below hb3
  obtain ⟨b, o, rfl, c0⟩ := (gU3.out.below hb3).at (i := 0) (by simp)
  obtain ⟨b', o', rfl, t0⟩ := (gV3.out.below hb3).at (i := 0) (by simp)
  obtain ⟨b'', o'', e, t1⟩ := (gV3.out.below hb3).at (i := 1) (by simp)
  cases e
  simp only [List.getD_cons_succ, List.getD_cons_zero, Nat.add_zero] at c0 t0 t1
  have HBF := Lib.hid (bl_tr gw3.out hb3)
  obtain ⟨h0, hB, hA, hM⟩ := HH.out
  have hcmp : ¬ (0 : Int) < (A : Int) - B := by clear wB wA wM; omega
  clear hb3 gU3 gV3 gQ3 gR3 gw3 F1 F2 HH hlt2 gz
  have H0 := Lib.hid h0
  clear h0
  go_wp2_with fail
  have h0 := H0.out
  have X1 := Lib.hid (show IntKind.i64.wrap ((B : Int) - A) = (D : Int) by rw [show ((B : Int) - A) = (D : Int) by clear wB wA wM; omega]; exact IntWalk.i64_in _ ⟨by clear wB wA wM; omega, by clear wB wA wM; omega⟩)
  have X2 := Lib.hid (show IntKind.i64.wrap (-(M : Int)) = -(M : Int) by rw [show (-(M : Int)) = -(M : Int) by clear wB wA wM; omega]; exact IntWalk.i64_in _ ⟨by clear wB wA wM; omega, by clear wB wA wM; omega⟩)
  clear h0 hB hA hM hcmp
  have x1 := X1.out
  have x2 := X2.out
  have r1 : (if (0 : Int) < (D : Int) then (D : Int) else 0) = D := by split <;> omega
  have r2 : (if 0 < D then (D : Int) else 0) = D := by split <;> omega
  have r3 : (if (0 : Int) < (M : Int) then (M : Int) else 0) = M := by split <;> omega
  have r4 : (if 0 < M then (M : Int) else 0) = M := by split <;> omega
  go_quiet (fail)
  go_wp2_with fail
  go_ret
  exact ⟨rfl, bl_dN HBF.out _⟩

set_option maxRecDepth 100000 in
set_option maxHeartbeats 3200000 in
theorem poolCredit_two (balance paid more : Int) (B A M D : Nat) (h0 : (A : Int) = B + D ∧ 0 < D ∧ M < D) (hB : B < 1000) (hA : A < 2000) (hM : M < 2000)
    (kB : (IntKind.u64.wrap balance).tmod 1000 = (B : Int)) (wB : wrap64 (B : Int) = B) (kA : (IntKind.u64.wrap paid).tmod 2000 = (A : Int)) (wA : wrap64 (A : Int) = A) (kM : (IntKind.u64.wrap more).tmod 2000 = (M : Int)) (wM : wrap64 (M : Int) = M) (w : World) :
    Calls Try.prog 6 #[.int .i64 balance, .int .i64 paid, .int .i64 more] w (RetB (.bool true) w) := by
  obtain ⟨f1, f2⟩ := credit_facts (B := B) (A := A) (M := M) (by clear kB kA kM wB wA wM; omega) (by clear kB kA kM wB wA wM; omega) (by clear kB kA kM wB wA wM; omega)
  have e1 : max (0 : Int) ((A : Int) - B) = (D : Int) := by clear kB kA kM wB wA wM; omega
  have e2 : max (0 : Int) ((B : Int) - A) = 0 := by clear kB kA kM wB wA wM; omega
  have e3 : max (0 : Int) ((D : Int) - (M : Int)) = ((D : Int) - M) := by clear kB kA kM wB wA wM; omega
  have e4 : max (0 : Int) ((M : Int) - (D : Int)) = 0 := by clear kB kA kM wB wA wM; omega
  rw [e1, e2] at f1 f2
  rw [e3, e4] at f2
  have F1 := Lib.hid f1
  have F2 := Lib.hid f2
  have HH := Lib.hid (And.intro h0 (And.intro hB (And.intro hA hM)))
  clear f1 f2 e1 e2 e3 e4 h0 hB hA hM
  go_enter Try.func6, Try.ntmps6
  go_wp2_with fail
  clear kB kA kM
  obtain ⟨W, hW, gP, gS, gI, gw, gz⟩ : ∃ W, (((w.alloc (.cells #[.int .i64 (B : Int), .int .i64 0] 2)).alloc (.cells #[.slice (some ⟨w.heap.size, 0, none⟩) 2 2, .int .i64 0, .int .i64 0] 25)).alloc (.cells #[.int .i64 1, .int .i64 2] 2)) = W ∧ Hid (PB W (w.heap.size + 1) (.slice (some ⟨w.heap.size, 0, none⟩) 2 2) 0 0) ∧ Hid (Sl .i64 W (.slice (some ⟨w.heap.size, 0, none⟩) 2 2) [(B : Int), 0]) ∧ Hid (Sl .i64 W (.slice (some ⟨w.heap.size + 1 + 1, 0, none⟩) 2 2) [1, 2]) ∧ Hid (Below w.heap.size w W) ∧ w.heap.size + 1 < W.heap.size :=
    ⟨_, rfl, by have := PB.new (w.alloc (.cells #[.int .i64 (B : Int), .int .i64 0] 2)) 25 (.slice (some ⟨w.heap.size, 0, none⟩) 2 2) 0 0; rw [World.size_alloc] at this; exact this.below (bl_al (Below.refl _ _) _), ((Sl.lit w _ [(B : Int), 0] 2 rfl _ rfl (by unfold maxLen; omega)).alloc _).alloc _, Sl.litAt _ _ [1, 2] 2 _ rfl _ rfl (by unfold maxLen; omega) (by simp), bl_al (bl_al (bl_al (Below.refl _ _) _) _) _, by simp⟩
  with_reducible rw [hW]
  clear hW
  refine (poolPay_any _ _ _ [1, 2] 0 0 A _ F1 (by simp) _ gS.out gI.out).mono ?_
  rintro _ w1 ⟨u, rfl, hu, hb1⟩
  have HU := Lib.hid hu
  obtain ⟨ao, cap, rfl⟩ := hu.shape
  simp only [List.length_cons, List.length_nil, Nat.zero_add]
  have HB1 := Lib.hid (bl_tr gw.out hb1)
  clear hu hb1 gP gS gI gw
  go_wp2_with fail
  obtain ⟨W2, hW2, gU2, gQ2, gw2⟩ : ∃ W2, (w1.alloc (.cells #[.slice ao 2 cap, .int .i64 (D : Int), .int .i64 0] 25)) = W2 ∧ Hid (Sl .i64 W2 (.slice ao 2 cap) [0, 0]) ∧ Hid (PB W2 w1.heap.size (.slice ao 2 cap) (D : Int) 0) ∧ Hid (Below w.heap.size w W2) :=
    ⟨_, rfl, HU.out.alloc _, PB.new w1 _ _ _ _, bl_al HB1.out _⟩
  with_reducible rw [hW2]
  clear hW2
  refine (poolCharge_any _ _ (D : Int) 0 2 M _ F2 (by simp) _ gU2.out).mono ?_
  rintro _ w2 ⟨u2, rfl, hu2, hb2⟩
  have HU2 := Lib.hid hu2
  obtain ⟨ao2, cap2, rfl⟩ := hu2.shape
  simp only [List.length_cons, List.length_nil, Nat.zero_add]
  have HUA := Lib.hid (gU2.out.below hb2)
  have HQA := Lib.hid (gQ2.out.below hb2)
  have HB2 := Lib.hid (bl_tr gw2.out hb2)
  have hlt2 : w1.heap.size < w2.heap.size := cell_block_lt HQA.out.1
  clear hu2 hb2 gU2 gQ2 gw2 HU HB1
  go_wp2_with fail
  obtain ⟨W3, hW3, gU3, gV3, gQ3, gR3, gw3⟩ : ∃ W3, (w2.alloc (.cells #[.slice ao2 2 cap2, .int .i64 ((D : Int) - M), .int .i64 0] 25)) = W3 ∧ Hid (Sl .i64 W3 (.slice ao 2 cap) [0, 0]) ∧ Hid (Sl .i64 W3 (.slice ao2 2 cap2) [0, 0]) ∧ Hid (PB W3 w1.heap.size (.slice ao 2 cap) (D : Int) 0) ∧ Hid (PB W3 w2.heap.size (.slice ao2 2 cap2) ((D : Int) - M) 0) ∧ Hid (Below w.heap.size w W3) :=
    ⟨_, rfl, HUA.out.alloc _, HU2.out.alloc _, HQA.out.below (bl_al (Below.refl _ _) _), PB.new w2 _ _ _ _, bl_al HB2.out _⟩
  with_reducible rw [hW3]
  clear hW3 HUA HU2 HQA HB2
  refine (awake11_any _).mono ?_
  rintro _ w3 ⟨rfl, hb3⟩
  obtain ⟨q0, q1, q2⟩ := gQ3.out.below hb3
  obtain ⟨s0, s1, s2⟩ := gR3.out.below hb3
  obtain ⟨b, o, rfl, c0⟩ := (gU3.out.below hb3).at (i := 0) (by simp)
  obtain ⟨b', o', rfl, t0⟩ := (gV3.out.below hb3).at (i := 0) (by simp)
  obtain ⟨b'', o'', e, t1⟩ := (gV3.out.below hb3).at (i := 1) (by simp)
  cases e
  simp only [List.getD_cons_succ, List.getD_cons_zero, Nat.add_zero] at c0 t0 t1
  have HBF := Lib.hid (bl_tr gw3.out hb3)
  obtain ⟨h0, hB, hA, hM⟩ := HH.out
  have hcmp : (0 : Int) < (A : Int) - B := by clear wB wA wM; omega
  clear hb3 gU3 gV3 gQ3 gR3 gw3 F1 F2 HH hlt2 gz
  have H0 := Lib.hid h0
  clear h0
  go_wp2_with fail
  have h0 := H0.out
  rw [show (A : Int) - (B : Int) = (D : Int) by clear wB wA wM; omega]
  have X1 := Lib.hid (show IntKind.i64.wrap ((B : Int) - A) = -(D : Int) by rw [show ((B : Int) - A) = -(D : Int) by clear wB wA wM; omega]; exact IntWalk.i64_in _ ⟨by clear wB wA wM; omega, by clear wB wA wM; omega⟩)
  have X2 := Lib.hid (show IntKind.i64.wrap ((D : Int) - M) = (D : Int) - M by rw [show ((D : Int) - M) = (D : Int) - M by clear wB wA wM; omega]; exact IntWalk.i64_in _ ⟨by clear wB wA wM; omega, by clear wB wA wM; omega⟩)
  have X3 := Lib.hid (show IntKind.i64.wrap ((M : Int) - D) = (M : Int) - D by rw [show ((M : Int) - D) = (M : Int) - D by clear wB wA wM; omega]; exact IntWalk.i64_in _ ⟨by clear wB wA wM; omega, by clear wB wA wM; omega⟩)
  have N1 := Lib.hid (show M < D by clear wB wA wM; omega)
  have N2 := Lib.hid (show (M : Int) < D by clear wB wA wM; omega)
  have N3 := Lib.hid (show ¬ D < M by clear wB wA wM; omega)
  have N4 := Lib.hid (show ¬ (D : Int) < M by clear wB wA wM; omega)
  have N5 := Lib.hid (show 0 < D by clear wB wA wM; omega)
  clear h0 hB hA hM hcmp
  have x1 := X1.out
  have x2 := X2.out
  have x3 := X3.out
  have n1 := N1.out
  have n2 := N2.out
  have n3 := N3.out
  have n4 := N4.out
  have n5 := N5.out
  go_quiet (fail)
  go_wp2_with fail
  go_ret
  exact ⟨rfl, bl_dN HBF.out _⟩

set_option maxRecDepth 100000 in
set_option maxHeartbeats 3200000 in
theorem poolCredit_three (balance paid more : Int) (B A M D : Nat) (h0 : (A : Int) = B + D ∧ 0 < D ∧ D ≤ M) (hB : B < 1000) (hA : A < 2000) (hM : M < 2000)
    (kB : (IntKind.u64.wrap balance).tmod 1000 = (B : Int)) (wB : wrap64 (B : Int) = B) (kA : (IntKind.u64.wrap paid).tmod 2000 = (A : Int)) (wA : wrap64 (A : Int) = A) (kM : (IntKind.u64.wrap more).tmod 2000 = (M : Int)) (wM : wrap64 (M : Int) = M) (w : World) :
    Calls Try.prog 6 #[.int .i64 balance, .int .i64 paid, .int .i64 more] w (RetB (.bool true) w) := by
  obtain ⟨f1, f2⟩ := credit_facts (B := B) (A := A) (M := M) (by clear kB kA kM wB wA wM; omega) (by clear kB kA kM wB wA wM; omega) (by clear kB kA kM wB wA wM; omega)
  have e1 : max (0 : Int) ((A : Int) - B) = (D : Int) := by clear kB kA kM wB wA wM; omega
  have e2 : max (0 : Int) ((B : Int) - A) = 0 := by clear kB kA kM wB wA wM; omega
  have e3 : max (0 : Int) ((D : Int) - (M : Int)) = 0 := by clear kB kA kM wB wA wM; omega
  have e4 : max (0 : Int) ((M : Int) - (D : Int)) = ((M : Int) - D) := by clear kB kA kM wB wA wM; omega
  rw [e1, e2] at f1 f2
  rw [e3, e4] at f2
  have F1 := Lib.hid f1
  have F2 := Lib.hid f2
  have HH := Lib.hid (And.intro h0 (And.intro hB (And.intro hA hM)))
  clear f1 f2 e1 e2 e3 e4 h0 hB hA hM
  go_enter Try.func6, Try.ntmps6
  go_wp2_with fail
  clear kB kA kM
  obtain ⟨W, hW, gP, gS, gI, gw, gz⟩ : ∃ W, (((w.alloc (.cells #[.int .i64 (B : Int), .int .i64 0] 2)).alloc (.cells #[.slice (some ⟨w.heap.size, 0, none⟩) 2 2, .int .i64 0, .int .i64 0] 25)).alloc (.cells #[.int .i64 1, .int .i64 2] 2)) = W ∧ Hid (PB W (w.heap.size + 1) (.slice (some ⟨w.heap.size, 0, none⟩) 2 2) 0 0) ∧ Hid (Sl .i64 W (.slice (some ⟨w.heap.size, 0, none⟩) 2 2) [(B : Int), 0]) ∧ Hid (Sl .i64 W (.slice (some ⟨w.heap.size + 1 + 1, 0, none⟩) 2 2) [1, 2]) ∧ Hid (Below w.heap.size w W) ∧ w.heap.size + 1 < W.heap.size :=
    ⟨_, rfl, by have := PB.new (w.alloc (.cells #[.int .i64 (B : Int), .int .i64 0] 2)) 25 (.slice (some ⟨w.heap.size, 0, none⟩) 2 2) 0 0; rw [World.size_alloc] at this; exact this.below (bl_al (Below.refl _ _) _), ((Sl.lit w _ [(B : Int), 0] 2 rfl _ rfl (by unfold maxLen; omega)).alloc _).alloc _, Sl.litAt _ _ [1, 2] 2 _ rfl _ rfl (by unfold maxLen; omega) (by simp), bl_al (bl_al (bl_al (Below.refl _ _) _) _) _, by simp⟩
  with_reducible rw [hW]
  clear hW
  refine (poolPay_any _ _ _ [1, 2] 0 0 A _ F1 (by simp) _ gS.out gI.out).mono ?_
  rintro _ w1 ⟨u, rfl, hu, hb1⟩
  have HU := Lib.hid hu
  obtain ⟨ao, cap, rfl⟩ := hu.shape
  simp only [List.length_cons, List.length_nil, Nat.zero_add]
  have HB1 := Lib.hid (bl_tr gw.out hb1)
  clear hu hb1 gP gS gI gw
  go_wp2_with fail
  obtain ⟨W2, hW2, gU2, gQ2, gw2⟩ : ∃ W2, (w1.alloc (.cells #[.slice ao 2 cap, .int .i64 (D : Int), .int .i64 0] 25)) = W2 ∧ Hid (Sl .i64 W2 (.slice ao 2 cap) [0, 0]) ∧ Hid (PB W2 w1.heap.size (.slice ao 2 cap) (D : Int) 0) ∧ Hid (Below w.heap.size w W2) :=
    ⟨_, rfl, HU.out.alloc _, PB.new w1 _ _ _ _, bl_al HB1.out _⟩
  with_reducible rw [hW2]
  clear hW2
  refine (poolCharge_any _ _ (D : Int) 0 2 M _ F2 (by simp) _ gU2.out).mono ?_
  rintro _ w2 ⟨u2, rfl, hu2, hb2⟩
  have HU2 := Lib.hid hu2
  obtain ⟨ao2, cap2, rfl⟩ := hu2.shape
  simp only [List.length_cons, List.length_nil, Nat.zero_add]
  have HUA := Lib.hid (gU2.out.below hb2)
  have HQA := Lib.hid (gQ2.out.below hb2)
  have HB2 := Lib.hid (bl_tr gw2.out hb2)
  have hlt2 : w1.heap.size < w2.heap.size := cell_block_lt HQA.out.1
  clear hu2 hb2 gU2 gQ2 gw2 HU HB1
  go_wp2_with fail
  obtain ⟨W3, hW3, gU3, gV3, gQ3, gR3, gw3⟩ : ∃ W3, (w2.alloc (.cells #[.slice ao2 2 cap2, .int .i64 0, .int .i64 0] 25)) = W3 ∧ Hid (Sl .i64 W3 (.slice ao 2 cap) [0, 0]) ∧ Hid (Sl .i64 W3 (.slice ao2 2 cap2) [0, ((M : Int) - D)]) ∧ Hid (PB W3 w1.heap.size (.slice ao 2 cap) (D : Int) 0) ∧ Hid (PB W3 w2.heap.size (.slice ao2 2 cap2) 0 0) ∧ Hid (Below w.heap.size w W3) :=
    ⟨_, rfl, HUA.out.alloc _, HU2.out.alloc _, HQA.out.below (bl_al (Below.refl _ _) _), PB.new w2 _ _ _ _, bl_al HB2.out _⟩
  with_reducible rw [hW3]
  clear hW3 HUA HU2 HQA HB2
  refine (awake11_any _).mono ?_
  rintro _ w3 ⟨rfl, hb3⟩
  obtain ⟨q0, q1, q2⟩ := gQ3.out.below hb3
  obtain ⟨s0, s1, s2⟩ := gR3.out.below hb3
  obtain ⟨b, o, rfl, c0⟩ := (gU3.out.below hb3).at (i := 0) (by simp)
  obtain ⟨b', o', rfl, t0⟩ := (gV3.out.below hb3).at (i := 0) (by simp)
  obtain ⟨b'', o'', e, t1⟩ := (gV3.out.below hb3).at (i := 1) (by simp)
  cases e
  simp only [List.getD_cons_succ, List.getD_cons_zero, Nat.add_zero] at c0 t0 t1
  have HBF := Lib.hid (bl_tr gw3.out hb3)
  obtain ⟨h0, hB, hA, hM⟩ := HH.out
  have hcmp : (0 : Int) < (A : Int) - B := by clear wB wA wM; omega
  clear hb3 gU3 gV3 gQ3 gR3 gw3 F1 F2 HH hlt2 gz
  have H0 := Lib.hid h0
  clear h0
  go_wp2_with fail
  have h0 := H0.out
  rw [show (A : Int) - (B : Int) = (D : Int) by clear wB wA wM; omega]
  have X1 := Lib.hid (show IntKind.i64.wrap ((B : Int) - A) = -(D : Int) by rw [show ((B : Int) - A) = -(D : Int) by clear wB wA wM; omega]; exact IntWalk.i64_in _ ⟨by clear wB wA wM; omega, by clear wB wA wM; omega⟩)
  have X2 := Lib.hid (show IntKind.i64.wrap ((D : Int) - M) = (D : Int) - M by rw [show ((D : Int) - M) = (D : Int) - M by clear wB wA wM; omega]; exact IntWalk.i64_in _ ⟨by clear wB wA wM; omega, by clear wB wA wM; omega⟩)
  have X3 := Lib.hid (show IntKind.i64.wrap ((M : Int) - D) = (M : Int) - D by rw [show ((M : Int) - D) = (M : Int) - D by clear wB wA wM; omega]; exact IntWalk.i64_in _ ⟨by clear wB wA wM; omega, by clear wB wA wM; omega⟩)
  have N1 := Lib.hid (show ¬ M < D by clear wB wA wM; omega)
  have N2 := Lib.hid (show ¬ (M : Int) < D by clear wB wA wM; omega)
  have N3 := Lib.hid (show 0 < D by clear wB wA wM; omega)
  clear h0 hB hA hM hcmp
  have x1 := X1.out
  have x2 := X2.out
  have x3 := X3.out
  have n1 := N1.out
  have n1' : D ≤ M := by omega
  have n2 := N2.out
  have n3 := N3.out
  have r5 : (if (0 : Int) < (M : Int) - D then (M : Int) - D else 0) = M - D := by split <;> omega
  have r6 : (if (D : Int) < (M : Int) then (M : Int) - D else 0) = M - D := by split <;> omega
  have r7 : (if D < M then (M : Int) - D else 0) = M - D := by split <;> omega
  go_quiet (fail)
  go_wp2_with fail
  go_ret
  exact ⟨rfl, bl_dN HBF.out _⟩

theorem poolCredit_any (balance paid more : Int) (w : World) : Calls Try.prog 6 #[.int .i64 balance, .int .i64 paid, .int .i64 more] w (RetB (.bool true) w) := by
  obtain ⟨B, _, hB1, hB2, hB3⟩ := u64_rem2 balance 1000 (by omega) (by omega)
  obtain ⟨A, _, hA1, hA2, hA3⟩ := u64_rem2 paid 2000 (by omega) (by omega)
  obtain ⟨M, _, hM1, hM2, hM3⟩ := u64_rem2 more 2000 (by omega) (by omega)
  by_cases h1 : A ≤ B
  · exact poolCredit_one balance paid more B A M (B - A) (by clear hB1 hB2 hA1 hA2 hM1 hM2; omega) hB3 hA3 hM3 hB1 hB2 hA1 hA2 hM1 hM2 w
  · by_cases h2 : M < A - B
    · exact poolCredit_two balance paid more B A M (A - B) (by clear hB1 hB2 hA1 hA2 hM1 hM2; omega) hB3 hA3 hM3 hB1 hB2 hA1 hA2 hM1 hM2 w
    · exact poolCredit_three balance paid more B A M (A - B) (by clear hB1 hB2 hA1 hA2 hM1 hM2; omega) hB3 hA3 hM3 hB1 hB2 hA1 hA2 hM1 hM2 w
end Go.Proofs.Ytbiiejolemcifaa
