/- interest.Average: the balance of a day. -/
import Derived.Test.YtllblmoojohffaaRepeat
namespace Go.Proofs.Ytllblmoojohffaa
open Go.RowKit EvM

theorem evQ_le {n hi lo d : Nat} {q : Int} {b : Bool} (h1 : n / 18446744073709551616 = hi) (h2 : n % 18446744073709551616 = lo) (h : evQ (hi : Int) (lo : Int) (d : Int) = (q, b)) : q ≤ (n / d : Nat) + 1 := by
  have e : ((hi : Int) * 18446744073709551616 + lo).toNat = n := by omega
  unfold evQ at h
  rw [e, Int.toNat_natCast] at h
  have := even_le n d
  generalize n / d = m at *
  split at h
  · simp only [Prod.mk.injEq] at h; omega
  · split at h <;> simp only [Prod.mk.injEq] at h <;> omega
theorem aver_le {n d : Nat} (_hd : 0 < d) (h : n ≤ d * 1000000000000000) : n / d ≤ 1000000000000000 := by
  apply Nat.div_le_of_le_mul
  exact h

set_option maxHeartbeats 800000 in
set_option maxRecDepth 100000 in
theorem interAver_any (v : Value) (bs : List Int) (x e : Int) (hlen : bs.length ≤ 40000) (h : Hid (averR bs = (x, e))) (w : World) (hv : Sl .i64 w v bs) :
    Calls Try.prog 24 #[v] w (RetB (.tuple #[.int .i64 x, .int .i64 e]) w) := by
  have h := h.out
  have HV := Lib.hid hv
  obtain ⟨ao, cap, rfl, h1, ⟨h2, _⟩, h3⟩ := hv
  clear h3
  unfold maxLen at h2
  have hok := okE_one bs
  have d40 : decide (bs.length ≤ 40000) = true := by simpa using hlen
  rw [d40, Bool.true_and] at hok
  unfold averR okA at h
  rw [d40, Bool.and_true] at h
  cases ha : bs.any (overB 1000000000000000) with
  | true =>
    rw [ha] at hok h
    have hx : x = 0 ∧ e = 1 := by
      rw [if_neg (by simp)] at h
      simp only [Prod.mk.injEq] at h
      exact ⟨h.1.symm, h.2.symm⟩
    obtain ⟨rfl, rfl⟩ := hx
    have HE : Hid (exactR bs (List.replicate bs.length 1) = (0, 0, 1)) := by show _ = _; unfold exactR; rw [hok]; rfl
    have HL := Lib.hid hlen
    clear h hok ha d40 hlen
    go_enter Try.func24, Try.ntmps24
    go_wp2_with fail
    refine (repeat_ones _ bs.length HL.out _ (Sl.lit _ _ [1] 1 rfl _ rfl (by unfold maxLen; omega))).mono ?_
    rintro _ w1 ⟨u, rfl, hu, hb1⟩
    have hb2 := bl_tr (bl_al (Below.refl _ _) _) hb1
    have HU := Lib.hid hu
    clear hu hb1
    go_wp2_with fail
    refine (interExact_any _ _ bs _ 0 0 1 HE _ (HV.out.below hb2) HU.out).mono ?_
    rintro _ w2 ⟨rfl, hb3⟩
    go_wp2
    go_ret2
    exact ⟨rfl, bl_tr hb2 hb3⟩
  | false =>
    rw [ha] at hok h
    have hok' : okE bs (List.replicate bs.length 1) = true := by rw [hok]; rfl
    obtain ⟨hi, hhi⟩ : ∃ hi, sumB bs bs.length / 18446744073709551616 = hi := ⟨_, rfl⟩
    obtain ⟨lo, hlo⟩ : ∃ lo, sumB bs bs.length % 18446744073709551616 = lo := ⟨_, rfl⟩
    have HE : Hid (exactR bs (List.replicate bs.length 1) = (hi, lo, 0)) := by
      show _ = _
      unfold exactR
      rw [hok', if_pos rfl, sumE_one bs _ _ (Nat.le_refl _), hhi, hlo]
    by_cases hn : 1 ≤ bs.length
    · obtain ⟨q, b, hq⟩ : ∃ q b, evQ (hi : Int) (lo : Int) (bs.length : Int) = (q, b) := ⟨_, _, rfl⟩
      have hx : x = q ∧ e = 0 := by
        rw [if_pos (by rw [decide_eq_true hn]; rfl), hhi, hlo, hq] at h
        simp only [Prod.mk.injEq] at h
        exact ⟨h.1.symm, h.2.symm⟩
      obtain ⟨rfl, rfl⟩ := hx
      have hq0 := evQ_nn hq
      have hq1 := evQ_le hhi hlo hq
      have hq2 := aver_le (show 0 < bs.length by omega) (sumB_le ha bs.length)
      have hxb : x ≤ 1000000000000001 := by omega
      have wq2 : IntKind.u64.wrap (bs.length : Int) = bs.length := by rw [IntKind.wrap_u64]; omega
      have d1 : ((bs.length : Int) == 0) = false := by simp; intro h; rw [h] at hn; simp at hn
      have d2 : (bs.length == 0) = false := by simp; intro h; rw [h] at hn; simp at hn
      have d3 : bs.isEmpty = false := by cases bs with | nil => simp at hn | cons a l => rfl
      have hne : bs ≠ [] := by intro h; rw [h] at hn; simp at hn
      have HQ := Lib.hid hq
      have HLO : Hid (lo < 18446744073709551616) := by show _ < _; omega
      have HL := Lib.hid hlen
      clear h hok hok' ha d40 hlen hhi hlo hq hq1 hq2 hn
      go_enter Try.func24, Try.ntmps24
      go_wp2_with fail
      refine (repeat_ones _ bs.length HL.out _ (Sl.lit _ _ [1] 1 rfl _ rfl (by unfold maxLen; omega))).mono ?_
      rintro _ w1 ⟨u, rfl, hu, hb1⟩
      have hb2 := bl_tr (bl_al (Below.refl _ _) _) hb1
      have HU := Lib.hid hu
      clear hu hb1
      go_wp2_with fail
      refine (interExact_any _ _ bs _ hi lo 0 HE _ (HV.out.below hb2) HU.out).mono ?_
      rintro _ w2 ⟨rfl, hb3⟩
      go_wp2_with fail
      refine (even_any hi lo bs.length x b HLO.out (by have := HL.out; omega) HQ _).mono ?_
      rintro _ w3 ⟨rfl, hb4⟩
      go_wp2
      go_ret2
      exact ⟨rfl, bl_tr (bl_tr hb2 hb3) hb4⟩
    · have hx : x = 0 ∧ e = 1 := by
        rw [if_neg (by rw [decide_eq_false hn]; simp)] at h
        simp only [Prod.mk.injEq] at h
        exact ⟨h.1.symm, h.2.symm⟩
      obtain ⟨rfl, rfl⟩ := hx
      obtain rfl : bs = [] := List.eq_nil_of_length_eq_zero (by omega)
      clear h hok hok' ha d40 hlen hhi hlo hn
      go_enter Try.func24, Try.ntmps24
      go_wp2_with fail
      refine (repeat_ones _ 0 (by omega) _ (Sl.lit _ _ [1] 1 rfl _ rfl (by unfold maxLen; omega))).mono ?_
      rintro _ w1 ⟨u, rfl, hu, hb1⟩
      have hb2 := bl_tr (bl_al (Below.refl _ _) _) hb1
      have HU := Lib.hid hu
      clear hu hb1
      go_wp2_with fail
      refine (interExact_any _ _ [] _ hi lo 0 HE _ (HV.out.below hb2) HU.out).mono ?_
      rintro _ w2 ⟨rfl, hb3⟩
      go_wp2
      go_ret2
      exact ⟨rfl, bl_tr hb2 hb3⟩
end Go.Proofs.Ytllblmoojohffaa
