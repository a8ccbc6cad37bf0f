/- lombardref11.Total; rightP by its conditions; interest step by step. -/
import Derived.Test.YtbiiejolemcifaaRef11D
import Derived.Test.YtbiiejolemcifaaBear
namespace Go.Proofs.Ytbiiejolemcifaa
open Go.RowKit

theorem sumK_sum {bs : List Int} (n : Nat) (hn : n ≤ bs.length) : sumK bs n = (bs.take n).sum := by
  induction n with
  | zero => simp [sumK]
  | succ n ih =>
    rw [sumK, ih (by omega), List.take_succ_eq_append_getElem (by omega), List.sum_append]
    simp [List.getD, show n < bs.length by omega]
theorem rightP_iff {bs : List Int} {c d : Int} : rightP bs c d = true ↔ (1 ≤ bs.length ∧ bs.length ≤ 8) ∧ (0 ≤ c ∧ c ≤ 1000000000000000) ∧ (0 ≤ d ∧ d ≤ 1000000000000000) ∧ (∀ j, j < bs.length → 0 ≤ bs.getD j 0 ∧ bs.getD j 0 ≤ 1000000000000000) ∧ (0 ≤ sumK bs bs.length ∧ sumK bs bs.length ≤ 1000000000000000) ∧ (c = 0 ∨ sumK bs bs.length = 0) := by
  rw [← rightD_eq]
  unfold rightD
  simp only [Bool.and_eq_true, decide_eq_true_eq, may0_iff, Bool.or_eq_true, beq_iff_eq, List.all_eq_true, List.mem_range]
  constructor
  · rintro ⟨⟨⟨⟨⟨h1, h2⟩, h3⟩, h4⟩, h5⟩, h6, h7⟩
    exact ⟨⟨h1, h2⟩, h3, h4, h5, h6, h7⟩
  · rintro ⟨⟨h1, h2⟩, h3, h4, h5, h6, h7⟩
    exact ⟨⟨⟨⟨⟨h1, h2⟩, h3⟩, h4⟩, h5⟩, h6, h7⟩
theorem sumK_set (bs : List Int) (k : Nat) (x : Int) (hk : k < bs.length) (n : Nat) : sumK (bs.set k x) n = sumK bs n + (if k < n then x - bs.getD k 0 else 0) := by
  induction n with
  | zero => simp [sumK]
  | succ n ih =>
    rw [sumK, sumK, ih]
    by_cases e : k = n
    · subst e
      have e1 : (bs.set k x).getD k 0 = x := by simp [List.getD, hk]
      rw [e1, if_neg (by omega), if_pos (by omega)]
      omega
    · have e1 : (bs.set k x).getD n 0 = bs.getD n 0 := by simp [List.getD, e]
      rw [e1]
      by_cases h : k < n
      · rw [if_pos h, if_pos (by omega)]; omega
      · rw [if_neg h, if_neg (by omega)]; omega
/-- What each step of the interest keeps. -/
theorem bearSt_inv {ns bs : List Int} {c d : Int} (hr : rightP bs c d = true) (ha : ns.any notMay = false) (k : Nat) (hk : k ≤ bs.length) :
    (0 ≤ (bearSt ns bs c k).2 ∧ (bearSt ns bs c k).2 ≤ 1000000000000000) ∧ (∀ j, j < bs.length → 0 ≤ (bearSt ns bs c k).1.getD j 0) ∧ 0 ≤ sumK (bearSt ns bs c k).1 bs.length ∧ ((bearSt ns bs c k).2 = 0 ∨ sumK (bearSt ns bs c k).1 bs.length = 0) := by
  obtain ⟨_, hc, _, hb, hs, ho⟩ := rightP_iff.1 hr
  induction k with
  | zero => exact ⟨hc, fun j hj => (hb j hj).1, hs.1, ho⟩
  | succ k ih =>
    obtain ⟨i1, i2, i3, i4⟩ := ih (by omega)
    have hv := any_may ha k
    have hl := bearSt_len ns bs c k
    have hx := i2 k (by omega)
    simp only [bearSt]
    generalize (bearSt ns bs c k).1 = L at *
    generalize (bearSt ns bs c k).2 = C at *
    generalize ns.getD k 0 = v at *
    have hset := sumK_set L k (L.getD k 0 + (v - min v C)) (by omega) bs.length
    rw [if_pos (by omega)] at hset
    refine ⟨by omega, ?_, by omega, by omega⟩
    intro j hj
    by_cases e : k = j
    · subst e
      have e1 : (L.set k (L.getD k 0 + (v - min v C))).getD k 0 = L.getD k 0 + (v - min v C) := by simp [List.getD, show k < L.length by omega]
      rw [e1]
      omega
    · have e1 : (L.set k (L.getD k 0 + (v - min v C))).getD j 0 = L.getD j 0 := by simp [List.getD, e]
      rw [e1]
      exact i2 j hj
theorem bearSt_mono {ns bs : List Int} {c d : Int} (hr : rightP bs c d = true) (ha : ns.any notMay = false) (k : Nat) (hk : k < bs.length) :
    sumK (bearSt ns bs c k).1 bs.length ≤ sumK (bearSt ns bs c (k + 1)).1 bs.length ∧ ∀ j, (bearSt ns bs c k).1.getD j 0 ≤ (bearSt ns bs c (k + 1)).1.getD j 0 := by
  obtain ⟨i1, i2, i3, i4⟩ := bearSt_inv hr ha k (by omega)
  have hv := any_may ha k
  have hl := bearSt_len ns bs c k
  simp only [bearSt]
  generalize (bearSt ns bs c k).1 = L at *
  generalize (bearSt ns bs c k).2 = C at *
  generalize ns.getD k 0 = v at *
  have hset := sumK_set L k (L.getD k 0 + (v - min v C)) (by omega) bs.length
  rw [if_pos (by omega)] at hset
  refine ⟨by omega, fun j => ?_⟩
  by_cases e : k = j
  · subst e
    have e1 : (L.set k (L.getD k 0 + (v - min v C))).getD k 0 = L.getD k 0 + (v - min v C) := by simp [List.getD, show k < L.length by omega]
    rw [e1]
    omega
  · have e1 : (L.set k (L.getD k 0 + (v - min v C))).getD j 0 = L.getD j 0 := by simp [List.getD, e]
    rw [e1]
    exact Int.le_refl _
/-- Where all of it may be, each step may be. -/
theorem bearSt_right {ns bs : List Int} {c d : Int} (hr : rightP bs c d = true) (ha : ns.any notMay = false) (hn : rightP (bearSt ns bs c bs.length).1 (bearSt ns bs c bs.length).2 d = true) (k : Nat) (hk : k ≤ bs.length) : rightP (bearSt ns bs c k).1 (bearSt ns bs c k).2 d = true := by
  have key : ∀ g m, m + g = bs.length → sumK (bearSt ns bs c m).1 bs.length ≤ sumK (bearSt ns bs c bs.length).1 bs.length ∧ ∀ j, (bearSt ns bs c m).1.getD j 0 ≤ (bearSt ns bs c bs.length).1.getD j 0 := by
    intro g
    induction g with
    | zero =>
      intro m hm
      have : m = bs.length := by omega
      rw [this]
      exact ⟨Int.le_refl _, fun _ => Int.le_refl _⟩
    | succ g ih =>
      intro m hm
      obtain ⟨a1, a2⟩ := ih (m + 1) (by omega)
      obtain ⟨b1, b2⟩ := bearSt_mono hr ha m (by omega)
      exact ⟨Int.le_trans b1 a1, fun j => Int.le_trans (b2 j) (a2 j)⟩
  obtain ⟨k1, k2⟩ := key (bs.length - k) k (by omega)
  obtain ⟨i1, i2, i3, i4⟩ := bearSt_inv hr ha k hk
  obtain ⟨n1, n2, n3, n4, n5, n6⟩ := rightP_iff.1 hn
  rw [bearSt_len] at n1 n4 n5
  refine rightP_iff.2 ?_
  rw [bearSt_len]
  exact ⟨n1, i1, n3, fun j hj => ⟨i2 j hj, Int.le_trans (k2 j) (n4 j hj).2⟩, ⟨i3, Int.le_trans k1 n5.2⟩, i4⟩
theorem addS_bear {ns bs : List Int} {c d : Int} (k : Nat) : addS (bearSt ns bs c k).1 (bearSt ns bs c k).2 d k (ns.getD k 0) = if rightP (bearSt ns bs c (k + 1)).1 (bearSt ns bs c (k + 1)).2 d = true then ((bearSt ns bs c (k + 1)).1, (bearSt ns bs c (k + 1)).2, d, 0) else ([], 0, 0, 5) := rfl

set_option maxHeartbeats 800000 in
theorem refTotal11_any (v : Value) (bs : List Int) (c d t : Int) (ht : Hid (totalP bs c d = t)) (w : World) (hv : Sl .i64 w v bs) :
    Calls Try.prog 28 #[.agg #[v, .int .i64 c, .int .i64 d]] w (RetB (.int .i64 t) w) := by
  have HV := Lib.hid hv
  obtain ⟨ao, cap, rfl, h1, ⟨h2, _⟩, h3⟩ := hv
  clear h3
  unfold maxLen at h2
  have HP := Lib.hid (PB.new w 25 (.slice ao bs.length cap) c d)
  obtain ⟨p0, p1, p2⟩ := HP.out
  have hb0 : Below w.heap.size w (w.alloc (.cells #[.slice ao bs.length cap, .int .i64 c, .int .i64 d] 25)) := bl_al (Below.refl _ _) _
  cases hr : rightP bs c d with
  | false =>
    obtain rfl : 0 = t := by rw [← ht.out]; unfold totalP; rw [hr]; rfl
    have HR := Lib.hid hr
    clear ht hr
    go_enter Try.func28, Try.ntmps28
    go_wp2_with fail
    refine (refRight11_any _ bs c d false HR _ (HV.out.below hb0)).mono ?_
    rintro _ w1 ⟨rfl, hb1⟩
    go_wp2
    go_ret
    exact ⟨rfl, bl_tr hb0 hb1⟩
  | true =>
    obtain ⟨⟨l1, l8⟩, _, _, hb, hs, _⟩ := rightP_iff.1 hr
    have HT : Hid (sumK bs bs.length = t) := by
      show _ = _
      rw [← ht.out, sumK_sum _ (Nat.le_refl _), List.take_length]
      unfold totalP
      rw [if_pos hr]
    have HR := Lib.hid hr
    have HBB := Lib.hid hb
    have HL := Lib.hid l8
    clear ht hr hb hs l1 l8
    go_enter Try.func28, Try.ntmps28
    go_wp2_with fail
    refine (refRight11_any _ bs c d true HR _ (HV.out.below hb0)).mono ?_
    rintro _ w1 ⟨rfl, hb1⟩
    obtain ⟨q0, q1, q2⟩ := HP.out.below hb1
    have HB1 := Lib.hid (bl_tr hb0 hb1)
    have HV1 := Lib.hid (HV.out.below (bl_tr hb0 hb1))
    clear p0 p1 p2 hb0 hb1
    go_wp2_with fail
    go_loopg [3, 4] bs.length (fun g a i wr => ∃ (k : Nat) (all : Int), k + g = bs.length ∧ i = .int .i64 k ∧ a = .int .i64 all ∧ Hid (sumK bs k = all) ∧ Hid (0 ≤ all ∧ all ≤ 1000000000000000 * k) ∧ w1 = wr)
    case atStart => exact ⟨0, 0, by omega, rfl, rfl, rfl, by show _ ∧ _; omega, rfl⟩
    case round =>
      obtain ⟨k, all, hkg, rfl, rfl, HA, HB, rfl⟩ := hrel
      cases gk with
      | zero =>
        have hlt : ¬ ((k : Int) < (bs.length : Int)) := by omega
        have hk : k = bs.length := by omega
        obtain rfl : all = t := by rw [← HA.out, hk]; exact HT.out
        go_wp2
        go_ret
        exact ⟨rfl, HB1.out⟩
      | succ g =>
        have hlt : (k : Int) < (bs.length : Int) := by omega
        obtain ⟨b, o, y, rfl, hcell, HX⟩ := HV1.out.get (i := k) (by omega)
        have hy := HBB.out k (by omega)
        rw [HX.out] at hy
        have hB := HB.out
        have hk8 : k < 8 := by have := HL.out; omega
        obtain ⟨s, hs⟩ : ∃ s, all + y = s := ⟨_, rfl⟩
        have HS : Hid (sumK bs (k + 1) = s) := by show _ = _; rw [sumK, HA.out, HX.out, hs]
        have HSB : Hid (0 ≤ s ∧ s ≤ 1000000000000000 * ((k + 1 : Nat) : Int)) := by show _ ∧ _; omega
        have wS : wrap64 (all + y) = s := by rw [hs]; exact IntWalk.wrap64_in _ ⟨by omega, by omega⟩
        have WS := Lib.hid wS
        clear hy hB hk8 hs wS HA HB
        go_wp2_with fail
        go_roundg g
        case measure => omega
        case rel => exact ⟨k + 1, s, by omega, by go_num, by first | rfl | exact congrArg (Value.int .i64) WS.out, HS, HSB, rfl⟩
end Go.Proofs.Ytbiiejolemcifaa
