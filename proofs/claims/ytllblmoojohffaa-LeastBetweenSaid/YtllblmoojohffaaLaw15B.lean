/- LeastBetween. -/
import Derived.Test.YtllblmoojohffaaLaw15
namespace Go.Proofs.Ytllblmoojohffaa
open Go.RowKit EvM

theorem between_core (F T D p1 p2 Q : Nat) (hT : T < 1000000) (hD : D < 1000) (l1 : p1 ≤ T) (l2 : p2 ≤ T + D) (hmo : p1 ≤ p2) (ho : 2 * (Q : Int) ≤ 2 * ((p1 : Int) * 1000) + 1000) (a b : Int)
    (ha : min (T : Int) (max F p1) = a) (hb : min ((T : Int) + D) (max F p2) = b) :
    a ≤ T ∧ min (T : Int) F ≤ a ∧ -1000 ≤ 2 * (1000 * a - Q) ∧ a ≤ b ∧ (0 < (T : Int) ∨ a = 0) ∧ 0 ≤ a ∧ a ≤ 1000000 := by
  have h1 : a ≤ T := by omega
  have h2 : (p1 : Int) ≤ a := by omega
  have h3 : min (T : Int) F ≤ a := by omega
  have h4 : a ≤ b := by omega
  clear ha hb
  refine ⟨h1, h3, by omega, h4, by omega, by omega, by omega⟩

theorem between_math (F P T D : Nat) (hF : F < 10000) (hP : P < 1001) (hT : T < 1000000) (hD : D < 1000) : ∃ p1 p2 a b Q z S : Int, shareR T P 1000 = (p1, 0) ∧ shareR S P 1000 = (p2, 0) ∧ min (T : Int) (max F p1) = a ∧ min S (max F p2) = b ∧
    (P : Int) * T = Q ∧ min (T : Int) F = z ∧ (T : Int) + D = S ∧ a ≤ T ∧ z ≤ a ∧ -1000 ≤ 2 * (1000 * a - Q) ∧ a ≤ b ∧ (0 < (T : Int) ∨ a = 0) ∧ 0 ≤ a ∧ a ≤ 1000000 ∧ 0 ≤ Q ∧ Q ≤ 1000000000 ∧ 0 ≤ S ∧ S ≤ 1001000 := by
  have m1 : mayM (T : Int) = true := mayM_iff.2 (by omega)
  have m2 : mayM ((T : Int) + D) = true := mayM_iff.2 (by omega)
  have e1 : shQ T P 1000 = evenN (T * P) 1000 := by unfold shQ; rw [Int.natAbs_natCast, Int.toNat_natCast]; rfl
  have e2 : shQ ((T : Int) + D) P 1000 = evenN ((T + D) * P) 1000 := by unfold shQ; rw [← Int.natCast_add, Int.natAbs_natCast, Int.toNat_natCast]; rfl
  have hmo : evenN (T * P) 1000 ≤ evenN ((T + D) * P) 1000 := even_mono (by omega) (Nat.mul_le_mul_right _ (by omega))
  have l1 := shQ_le T P 1000 (by omega) (by omega) (by omega)
  have l2 := shQ_le ((T : Int) + D) P 1000 (by omega) (by omega) (by omega)
  have s1 := share_ok T P 1000 (by omega) (by omega) m1 (by omega)
  have s2 := share_ok ((T : Int) + D) P 1000 (by omega) (by omega) m2 (by omega)
  rw [if_neg (by omega)] at s1 s2
  have ho := share_off T P 1000 (by omega) (by omega) _ s1
  rw [e1] at l1 s1 ho; rw [e2] at l2 s2
  obtain ⟨p1, hp1⟩ : ∃ p, evenN (T * P) 1000 = p := ⟨_, rfl⟩
  obtain ⟨p2, hp2⟩ : ∃ p, evenN ((T + D) * P) 1000 = p := ⟨_, rfl⟩
  rw [hp1] at l1 s1 ho hmo; rw [hp2] at l2 s2 hmo
  have hQ := Nat.mul_le_mul (show P ≤ 1000 by omega) (show T ≤ 1000000 by omega)
  have hQ2 : (P : Int) * (T : Int) = ((P * T : Nat) : Int) := (Int.natCast_mul P T).symm
  rw [Int.mul_comm (T : Int) (P : Int), hQ2] at ho
  have ho' : 2 * ((P * T : Nat) : Int) ≤ 2 * ((p1 : Int) * 1000) + 1000 := by
    clear s1 s2 hQ hQ2 hmo l1 l2
    generalize P * T = Q at *
    rcases ho with ho | ⟨ho, _⟩ <;> omega
  have l1' : p1 ≤ T := by omega
  have l2' : p2 ≤ T + D := by omega
  clear e1 e2 hp1 hp2 m1 m2 ho l1 l2
  obtain ⟨a, ha⟩ : ∃ a, min (T : Int) (max (F : Int) (p1 : Int)) = a := ⟨_, rfl⟩
  obtain ⟨b, hb⟩ : ∃ b, min ((T : Int) + D) (max (F : Int) (p2 : Int)) = b := ⟨_, rfl⟩
  obtain ⟨c1, c2, c3, c4, c5, c6, c7⟩ := between_core F T D p1 p2 (P * T) hT hD l1' l2' hmo ho' a b ha hb
  refine ⟨p1, p2, a, b, _, _, _, s1, s2, ha, hb, hQ2, rfl, rfl, c1, c2, c3, c4, c5, c6, c7, ?_, ?_, by omega, by omega⟩
  · exact Int.natCast_nonneg _
  · exact Int.ofNat_le.2 (by omega)

/-- What the two calls answer, and what the walk asks of it. -/
theorem between_facts (F P T D : Nat) (hF : F < 10000) (hP : P < 1001) (hT : T < 1000000) (hD : D < 1000) : ∃ a b Q z S : Int, leastR (rightT 0 [(0, false)] 1 1 F P 10957) F P T = (a, 0) ∧ leastR (rightT 0 [(0, false)] 1 1 F P 10957) F P S = (b, 0) ∧
    (P : Int) * T = Q ∧ min (T : Int) F = z ∧ (T : Int) + D = S ∧ wrap64 S = S ∧ wrap64 Q = Q ∧ wrap64 (1000 * a) = 1000 * a ∧ wrap64 (1000 * a - Q) = 1000 * a - Q ∧ wrap64 (2 * (1000 * a - Q)) = 2 * (1000 * a - Q) ∧
    a ≤ T ∧ z ≤ a ∧ -1000 ≤ 2 * (1000 * a - Q) ∧ a ≤ b ∧ (¬ T = 0 ∨ (T = 0 ∧ a = 0)) := by
  obtain ⟨p1, p2, a, b, Q, z, S, h1, h2, h3, h4, h5, h6, h7, g1, g2, g3, g4, g5, g6, g7, g8, g9, g10, g11⟩ := between_math F P T D hF hP hT hD
  have f1 : (0 : Int) ≤ F ∧ (F : Int) ≤ 1000000000000000 := ⟨Int.natCast_nonneg _, Int.ofNat_le.2 (Nat.le_trans (Nat.le_of_lt hF) (by decide))⟩
  have f2 : (0 : Int) ≤ P ∧ (P : Int) ≤ 1000 := ⟨Int.natCast_nonneg _, Int.ofNat_le.2 (Nat.le_of_lt_succ hP)⟩
  have f3 : (0 : Int) ≤ T ∧ (T : Int) ≤ 1000000000000000 := ⟨Int.natCast_nonneg _, Int.ofNat_le.2 (Nat.le_trans (Nat.le_of_lt hT) (by decide))⟩
  have f4 : (0 : Int) ≤ S ∧ S ≤ 1000000000000000 := ⟨g10, Int.le_trans g11 (by decide)⟩
  refine ⟨a, b, Q, z, S, least15 F P T p1 a f1 f2 f3 h1 h3, least15 F P S p2 b f1 f2 f4 h2 h4, h5, h6, h7, ?_, ?_, ?_, ?_, ?_, g1, g2, g3, g4, ?_⟩
  all_goals clear h1 h2 h3 h4 h5 h6 h7 f1 f2 f3 f4 g1 g2 g3 g4
  · unfold wrap64; omega
  · unfold wrap64; omega
  · unfold wrap64; omega
  · unfold wrap64; omega
  · unfold wrap64; omega
  · rcases g5 with g | g <;> omega
theorem u64_rem2 (x : Int) (m : Nat) (hm : 0 < m) (hm2 : m ≤ 9223372036854775808) : ∃ r : Nat, IntKind.u64.wrap x % (m : Int) = (r : Int) ∧ (IntKind.u64.wrap x).tmod (m : Int) = (r : Int) ∧ wrap64 (r : Int) = (r : Int) ∧ r < m := by
  obtain ⟨r, h1, h2, h3⟩ := u64_rem x m hm hm2
  exact ⟨r, h1, by rw [Int.tmod_eq_emod_of_nonneg (by rw [u64_wrap]; omega)]; exact h1, h3, h2⟩

set_option maxHeartbeats 1600000 in
set_option maxRecDepth 100000 in
theorem leastBetween_any (fixed part total more : Int) (w : World) : Calls Try.prog 6 #[.int .i64 fixed, .int .i64 part, .int .i64 total, .int .i64 more] w (RetB (.bool true) w) := by
  obtain ⟨F, qF, qF2, hF3, hF1⟩ := u64_rem2 fixed 10000 (by omega) (by omega)
  obtain ⟨P, qP, qP2, hP3, hP1⟩ := u64_rem2 part 1001 (by omega) (by omega)
  obtain ⟨T, qT, qT2, hT3, hT1⟩ := u64_rem2 total 1000000 (by omega) (by omega)
  obtain ⟨D, qD, qD2, hD3, hD1⟩ := u64_rem2 more 1000 (by omega) (by omega)
  have hF : (IntKind.u64.wrap fixed).tmod 10000 = (F : Int) := qF2
  have hP : (IntKind.u64.wrap part).tmod 1001 = (P : Int) := qP2
  have hT : (IntKind.u64.wrap total).tmod 1000000 = (T : Int) := qT2
  have hD : (IntKind.u64.wrap more).tmod 1000 = (D : Int) := qD2
  have kF : IntKind.u64.wrap fixed % 10000 = (F : Int) := qF
  have kP : IntKind.u64.wrap part % 1001 = (P : Int) := qP
  have kT : IntKind.u64.wrap total % 1000000 = (T : Int) := qT
  have kD : IntKind.u64.wrap more % 1000 = (D : Int) := qD
  obtain ⟨a, b, Q, z, S, s1, s2, h5, h6, h7, c1, c2, c3, c4, c5, g1, g2, g3, g4, key⟩ := between_facts F P T D hF1 hP1 hT1 hD1
  have S1 := Lib.hid s1
  have S2 := Lib.hid s2
  have b1 : decide (a ≤ (T : Int)) = true := decide_eq_true g1
  have b2 : decide (z ≤ a) = true := decide_eq_true g2
  have b3 : decide (-1000 ≤ 2 * (1000 * a - Q)) = true := decide_eq_true g3
  have b4 : decide (a ≤ b) = true := decide_eq_true g4
  have HH := Lib.hid (And.intro h5 (And.intro h6 (And.intro h7 (And.intro c1 (And.intro c2 (And.intro c3 (And.intro c4 c5)))))))
  have HB := Lib.hid (And.intro b1 (And.intro b2 (And.intro b3 b4)))
  have HK := Lib.hid key
  clear s1 s2 hF1 hP1 hT1 hD1 g1 g2 g3 g4 h5 h6 h7 c1 c2 c3 c4 c5 b1 b2 b3 b4 key qF qF2 qP qP2 qT qT2 qD qD2
  go_enter Try.func6, Try.ntmps6
  go_wp2_with fail
  refine (terms15_any F P _).mono ?_
  rintro _ w1 ⟨v1, rfl, ht1, hb1⟩
  have HT := Lib.hid ht1
  obtain ⟨ao, nn, cap, rfl⟩ : ∃ ao n cap, v1 = .slice ao n cap := by obtain ⟨ao, cap, rfl, _⟩ := ht1; exact ⟨_, _, _, rfl⟩
  clear ht1 hF hF3 hP hP3 hT hD kF kP kT kD
  obtain ⟨h5, h6, h7, c1, _⟩ := HH.out
  have hTB := TB.new w1 34 0 (.slice ao nn cap) 1 1 F P 10957
  have HT2 := Lib.hid (HT.out.below (bl_al (Below.refl _ _) (.cells #[.int .i64 0, .slice ao nn cap, .int .i64 1, .int .i64 1, .int .i64 F, .int .i64 P, .int .i64 10957] 34)))
  have hb2 : Below w.heap.size w (w1.alloc (.cells #[.int .i64 0, .slice ao nn cap, .int .i64 1, .int .i64 1, .int .i64 F, .int .i64 P, .int .i64 10957] 34)) := bl_al hb1 _
  have HTB := Lib.hid hTB
  clear hTB
  go_wp2_with fail
  obtain ⟨W, hW, gT, gB, gw⟩ : ∃ W, (w1.alloc (.cells #[.int .i64 0, .slice ao nn cap, .int .i64 1, .int .i64 1, .int .i64 F, .int .i64 P, .int .i64 10957] 34)) = W ∧ Hid (TrS W (.slice ao nn cap) [(0, false)]) ∧ Hid (TB W w1.heap.size 0 (.slice ao nn cap) 1 1 F P 10957) ∧ Below w.heap.size w W := ⟨_, rfl, HT2, HTB, hb2⟩
  with_reducible rw [hW]
  clear hW HT HT2 HTB hb1 hb2
  generalize w1.heap.size = G at *
  refine (least_any _ [(0, false)] 0 1 1 F P 10957 T a 0 S1 _ gT.out).mono ?_
  rintro _ w2 ⟨rfl, hb3⟩
  obtain ⟨t0, t1, t2, t3, t4, t5, t6⟩ := gB.out.below hb3
  go_wp2_with fail
  refine (least_any _ [(0, false)] 0 1 1 F P 10957 S b 0 S2 _ (gT.out.below hb3)).mono ?_
  rintro _ w3 ⟨rfl, hb4⟩
  clear t0 t1 t2 t3 t4 t5 t6
  go_wp2_with fail
  refine (awake15_any _).mono ?_
  rintro _ w4 ⟨rfl, hb5⟩
  have hbf := bl_tr gw (bl_tr hb3 (bl_tr hb4 hb5))
  clear hb3 hb4 hb5 gw gT gB h7 c1
  obtain ⟨_, _, _, _, c2, c3, c4, c5⟩ := HH.out
  obtain ⟨b1, b2, b3, b4⟩ := HB.out
  rcases HK.out with k0 | ⟨k0, k1⟩
  · have k1 : decide ((0 : Int) < (T : Int)) = true := by simp; omega
    have k2 : decide (0 < T) = true := by simp; omega
    clear HH HB HK
    go_wp2
    go_ret
    exact ⟨rfl, hbf⟩
  · have k2 : decide ((0 : Int) < (T : Int)) = false := by simp; omega
    have k3 : (a == 0) = true := by simp [k1]
    have k4 : decide (0 < T) = false := by simp; omega
    clear HH HB HK k0 k1
    go_wp2
    go_ret
    exact ⟨rfl, hbf⟩
end Go.Proofs.Ytllblmoojohffaa
