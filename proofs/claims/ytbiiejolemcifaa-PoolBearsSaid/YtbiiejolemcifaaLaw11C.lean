/- PoolBears: interest takes credit first. -/
import Derived.Test.YtbiiejolemcifaaLaw11B
namespace Go.Proofs.Ytbiiejolemcifaa
open Go.RowKit
theorem bears_some {A X Y : Nat} (hA : A < 1000) (hX : X < 1000) (hY : Y < 1000) (_h0 : ¬ A = 0) : bearS [(A : Int), 0] 0 7 [(X : Int), (Y : Int)] = ([(A : Int) + X, (Y : Int)], 0, 7, 0) := by
  have hr0 : rightP [(A : Int), 0] 0 7 = true := rightP_two.2 (by omega)
  have hr1 : rightP [(A : Int) + X, (Y : Int)] 0 7 = true := rightP_two.2 (by omega)
  rw [bear_two (p := (A : Int) + X) (q := Y) (c1 := 0) (c2 := 0) hr0 (by omega) (by omega) (by omega) (by omega) (by omega) (by omega), if_pos hr1]
set_option maxHeartbeats 1600000 in
set_option maxRecDepth 100000 in
theorem poolBears_some (balance credit x y : Int) (A C X Y : Nat) (hA : A < 1000) (hC : C < 1000) (hX : X < 1000) (hY : Y < 1000) (h0 : ¬ A = 0)
    (kA1 : (IntKind.u64.wrap balance).tmod 1000 = (A : Int)) (wA : wrap64 (A : Int) = A)
    (kC1 : (IntKind.u64.wrap credit).tmod 1000 = (C : Int)) (_wC : wrap64 (C : Int) = C)
    (kX1 : (IntKind.u64.wrap x).tmod 1000 = (X : Int)) (wX : wrap64 (X : Int) = X)
    (kY1 : (IntKind.u64.wrap y).tmod 1000 = (Y : Int)) (wY : wrap64 (Y : Int) = Y) (w : World) :
    Calls Try.prog 3 #[.int .i64 balance, .int .i64 credit, .int .i64 x, .int .i64 y] w (RetB (.bool true) w) := by
  have HB := Lib.hid (bears_some hA hX hY h0)
  have hd0 : ((A : Int) == 0) = false := by simp [h0]
  have hd1 : (A == 0) = false := by simp [h0]
  have HBD := Lib.hid (And.intro hA (And.intro hC (And.intro hX hY)))
  clear hA hC hX hY
  go_enter Try.func3, Try.ntmps3
  go_wp2_with fail
  clear kA1 kC1 kX1 kY1
  have wnY : wrap64 (-(Y : Int)) = -(Y : Int) := by have := HBD.out; unfold wrap64; omega
  have wAX : wrap64 ((A : Int) + X) = (A : Int) + X := by have := HBD.out; unfold wrap64; omega
  have wnX : wrap64 (-(X : Int)) = -(X : Int) := by have := HBD.out; unfold wrap64; omega
  have gX : -(X : Int) ≤ 0 := by omega
  obtain ⟨W, hW, gP, gS, gI, gw, gz⟩ : ∃ W, (((w.alloc (.cells #[.int .i64 (A : Int), .int .i64 0] 2)).alloc (.cells #[.slice (some ⟨w.heap.size, 0, none⟩) 2 2, .int .i64 0, .int .i64 7] 25)).alloc (.cells #[.int .i64 (X : Int), .int .i64 Y] 2)) = W ∧ Hid (PB W (w.heap.size + 1) (.slice (some ⟨w.heap.size, 0, none⟩) 2 2) 0 7) ∧ Hid (Sl .i64 W (.slice (some ⟨w.heap.size, 0, none⟩) 2 2) [(A : Int), 0]) ∧ Hid (Sl .i64 W (.slice (some ⟨w.heap.size + 1 + 1, 0, none⟩) 2 2) [(X : Int), (Y : Int)]) ∧ Hid (Below w.heap.size w W) ∧ w.heap.size + 1 < W.heap.size :=
    ⟨_, rfl, by have := PB.new (w.alloc (.cells #[.int .i64 (A : Int), .int .i64 0] 2)) 25 (.slice (some ⟨w.heap.size, 0, none⟩) 2 2) 0 7; rw [World.size_alloc] at this; exact this.below (bl_al (Below.refl _ _) _), ((Sl.lit w _ [(A : Int), 0] 2 rfl _ rfl (by unfold maxLen; omega)).alloc _).alloc _, Sl.litAt _ _ [(X : Int), (Y : Int)] 2 _ rfl _ rfl (by unfold maxLen; omega) (by simp), bl_al (bl_al (bl_al (Below.refl _ _) _) _) _, by simp⟩
  with_reducible rw [hW]
  clear hW
  refine (poolBear_any _ _ _ [(X : Int), (Y : Int)] 0 7 _ HB (by simp) _ gS.out gI.out).mono ?_
  rintro _ w1 ⟨u, rfl, hu, hb1⟩
  have HU := Lib.hid hu
  obtain ⟨ao, cap, rfl⟩ := hu.shape
  simp only [List.length_cons, List.length_nil, Nat.zero_add]
  obtain ⟨p0, p1, p2⟩ := gP.out.below hb1
  have hlt1 : w.heap.size + 1 < w1.heap.size := cell_block_lt p0
  have HB1 := Lib.hid hb1
  clear hu hb1
  go_wp2_with fail
  all_goals
    refine (awake11_any _).mono ?_
    rintro _ w2 ⟨rfl, hb2⟩
    have HQ := Lib.hid (PB.new w1 25 (.slice ao 2 cap) 0 7)
    obtain ⟨q0, q1, q2⟩ := HQ.out.below hb2
    have HU2 := (HU.out.alloc (.cells #[.slice ao 2 cap, .int .i64 0, .int .i64 7] 25)).below hb2
    obtain ⟨b, o, rfl, c0⟩ := HU2.at (i := 0) (by simp)
    obtain ⟨b', o', e, c1⟩ := HU2.at (i := 1) (by simp)
    cases e
    simp only [List.getD_cons_succ, List.getD_cons_zero, Nat.add_zero] at c0 c1
    have HBF := Lib.hid (bl_tr (bl_al (bl_tr gw HB1.out) _) hb2)
    clear HU2 hb2 gw gP gS gI HU HB1 HB p0 p1 p2
    go_wp2_with fail
    all_goals first
      | (exfalso; omega)
      | (go_ret; refine ⟨?_, HBF.out⟩; first | rfl | (refine ret_bool ?_; first | (simp; omega) | simp))
theorem bears_none {C X Y : Nat} (hC : C < 1000) (hX : X < 1000) (hY : Y < 1000) : ∃ P Q G : Int, bearS [0, 0] C 7 [(X : Int), (Y : Int)] = ([P, Q], G, 7, 0) ∧ P = X - min (X : Int) C ∧ Q = Y - min (Y : Int) (C - min (X : Int) C) ∧ G = C - min (X : Int) C - min (Y : Int) (C - min (X : Int) C) := by
  have hr0 : rightP [(0 : Int), 0] C 7 = true := rightP_two.2 (by omega)
  refine ⟨_, _, _, ?_, rfl, rfl, rfl⟩
  have hr1 : rightP [(X : Int) - min (X : Int) C, Y - min (Y : Int) (C - min (X : Int) C)] (C - min (X : Int) C - min (Y : Int) (C - min (X : Int) C)) 7 = true := rightP_two.2 (by omega)
  rw [bear_two (p := (X : Int) - min (X : Int) C) (q := Y - min (Y : Int) (C - min (X : Int) C)) (c1 := C - min (X : Int) C) (c2 := C - min (X : Int) C - min (Y : Int) (C - min (X : Int) C)) hr0 (by omega) (by omega) (by omega) rfl (by omega) rfl, if_pos hr1]
set_option maxHeartbeats 1600000 in
set_option maxRecDepth 100000 in
theorem poolBears_none (balance credit x y : Int) (C X Y : Nat) (hC : C < 1000) (hX : X < 1000) (hY : Y < 1000)
    (kA1 : (IntKind.u64.wrap balance).tmod 1000 = 0)
    (kC1 : (IntKind.u64.wrap credit).tmod 1000 = (C : Int)) (wC : wrap64 (C : Int) = C)
    (kX1 : (IntKind.u64.wrap x).tmod 1000 = (X : Int)) (wX : wrap64 (X : Int) = X)
    (kY1 : (IntKind.u64.wrap y).tmod 1000 = (Y : Int)) (wY : wrap64 (Y : Int) = Y) (w : World) :
    Calls Try.prog 3 #[.int .i64 balance, .int .i64 credit, .int .i64 x, .int .i64 y] w (RetB (.bool true) w) := by
  obtain ⟨P, Q, G, HB', hD⟩ := bears_none hC hX hY
  have HB := Lib.hid HB'
  have HD := Lib.hid hD
  clear HB' hD
  have HBD := Lib.hid (And.intro hC (And.intro hX hY))
  clear hC hX hY
  go_enter Try.func3, Try.ntmps3
  go_wp2_with fail
  clear kA1 kC1 kX1 kY1
  have wnY : wrap64 (-(Y : Int)) = -(Y : Int) := by have := HBD.out; unfold wrap64; omega
  have wXC : wrap64 ((X : Int) - C) = (X : Int) - C := by have := HBD.out; unfold wrap64; omega
  have wCX : wrap64 ((C : Int) - X) = (C : Int) - X := by have := HBD.out; unfold wrap64; omega
  have wYCX : wrap64 ((Y : Int) - ((C : Int) - X)) = (Y : Int) - ((C : Int) - X) := by have := HBD.out; unfold wrap64; omega
  have wCXY : wrap64 ((C : Int) - X - Y) = (C : Int) - X - Y := by have := HBD.out; unfold wrap64; omega
  have wnX : wrap64 (-(X : Int)) = -(X : Int) := by have := HBD.out; unfold wrap64; omega
  obtain ⟨W, hW, gP, gS, gI, gw, gz⟩ : ∃ W, (((w.alloc (.cells #[.int .i64 0, .int .i64 0] 2)).alloc (.cells #[.slice (some ⟨w.heap.size, 0, none⟩) 2 2, .int .i64 (C : Int), .int .i64 7] 25)).alloc (.cells #[.int .i64 (X : Int), .int .i64 Y] 2)) = W ∧ Hid (PB W (w.heap.size + 1) (.slice (some ⟨w.heap.size, 0, none⟩) 2 2) C 7) ∧ Hid (Sl .i64 W (.slice (some ⟨w.heap.size, 0, none⟩) 2 2) [0, 0]) ∧ Hid (Sl .i64 W (.slice (some ⟨w.heap.size + 1 + 1, 0, none⟩) 2 2) [(X : Int), (Y : Int)]) ∧ Hid (Below w.heap.size w W) ∧ w.heap.size + 1 < W.heap.size :=
    ⟨_, rfl, by have := PB.new (w.alloc (.cells #[.int .i64 0, .int .i64 0] 2)) 25 (.slice (some ⟨w.heap.size, 0, none⟩) 2 2) C 7; rw [World.size_alloc] at this; exact this.below (bl_al (Below.refl _ _) _), ((Sl.lit w _ [0, 0] 2 rfl _ rfl (by unfold maxLen; omega)).alloc _).alloc _, Sl.litAt _ _ [(X : Int), (Y : Int)] 2 _ rfl _ rfl (by unfold maxLen; omega) (by simp), bl_al (bl_al (bl_al (Below.refl _ _) _) _) _, by simp⟩
  with_reducible rw [hW]
  clear hW
  refine (poolBear_any _ _ _ [(X : Int), (Y : Int)] C 7 _ HB (by simp) _ gS.out gI.out).mono ?_
  rintro _ w1 ⟨u, rfl, hu, hb1⟩
  have HU := Lib.hid hu
  obtain ⟨ao, cap, rfl⟩ := hu.shape
  simp only [List.length_cons, List.length_nil, Nat.zero_add]
  obtain ⟨p0, p1, p2⟩ := gP.out.below hb1
  have hlt1 : w.heap.size + 1 < w1.heap.size := cell_block_lt p0
  have HB1 := Lib.hid hb1
  clear hu hb1
  go_wp2_with fail
  all_goals
    refine (awake11_any _).mono ?_
    rintro _ w2 ⟨rfl, hb2⟩
    have HQ := Lib.hid (PB.new w1 25 (.slice ao 2 cap) G 7)
    obtain ⟨q0, q1, q2⟩ := HQ.out.below hb2
    have HU2 := (HU.out.alloc (.cells #[.slice ao 2 cap, .int .i64 G, .int .i64 7] 25)).below hb2
    obtain ⟨b, o, rfl, c0⟩ := HU2.at (i := 0) (by simp)
    obtain ⟨b', o', e, c1⟩ := HU2.at (i := 1) (by simp)
    cases e
    simp only [List.getD_cons_succ, List.getD_cons_zero, Nat.add_zero] at c0 c1
    have HBF := Lib.hid (bl_tr (bl_al (bl_tr gw HB1.out) _) hb2)
    clear HU2 hb2 gw gP gS gI HU HB1 HB p0 p1 p2
    go_wp2_with fail
    all_goals first
      | (exfalso; have := HD.out; have := HBD.out; omega)
      | (go_ret; refine ⟨?_, HBF.out⟩; first | rfl | (refine ret_bool ?_; first | (simp; have := HD.out; have := HBD.out; omega) | simp))

theorem poolBears_any (balance credit x y : Int) (w : World) : Calls Try.prog 3 #[.int .i64 balance, .int .i64 credit, .int .i64 x, .int .i64 y] w (RetB (.bool true) w) := by
  obtain ⟨A, _, hA1, hA2, hA3⟩ := u64_rem2 balance 1000 (by omega) (by omega)
  obtain ⟨C, _, hC1, hC2, hC3⟩ := u64_rem2 credit 1000 (by omega) (by omega)
  obtain ⟨X, _, hX1, hX2, hX3⟩ := u64_rem2 x 1000 (by omega) (by omega)
  obtain ⟨Y, _, hY1, hY2, hY3⟩ := u64_rem2 y 1000 (by omega) (by omega)
  by_cases h0 : A = 0
  · subst h0
    exact poolBears_none balance credit x y C X Y hC3 hX3 hY3 hA1 hC1 hC2 hX1 hX2 hY1 hY2 w
  · exact poolBears_some balance credit x y A C X Y hA3 hC3 hX3 hY3 h0 hA1 hA2 hC1 hC2 hX1 hX2 hY1 hY2 w
end Go.Proofs.Ytbiiejolemcifaa
