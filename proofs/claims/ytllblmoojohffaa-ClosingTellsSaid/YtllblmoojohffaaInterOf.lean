/- interest.Of: what balances bear. -/
import Derived.Test.YtllblmoojohffaaInter
namespace Go.Proofs.Ytllblmoojohffaa
open Go.RowKit EvM

theorem evQ_nn {hi lo den q : Int} {b : Bool} (h : evQ hi lo den = (q, b)) : 0 ≤ q := by
  unfold evQ at h
  split at h
  · simp only [Prod.mk.injEq] at h; omega
  · split at h <;> simp only [Prod.mk.injEq] at h <;> omega
theorem ofR2_of {n hi lo : Nat} {q : Int} {b : Bool} (h1 : n / 18446744073709551616 = hi) (h2 : n % 18446744073709551616 = lo) (h : evQ (hi : Int) (lo : Int) 1000000000 = (q, b)) : ofR2 n = if b = true ∧ q ≤ 1000000000000000 then (q, 0) else (0, 5) := by
  unfold ofR2
  rw [h1, h2, h]

set_option maxHeartbeats 800000 in
set_option maxRecDepth 100000 in
theorem interOf_any (v u : Value) (bs rs : List Int) (x e : Int) (h : Hid (interR bs rs = (x, e))) (w : World) (hv : Sl .i64 w v bs) (hu : Sl .i64 w u rs) :
    Calls Try.prog 14 #[v, u] w (RetB (.tuple #[.int .i64 x, .int .i64 e]) w) := by
  have h := h.out
  unfold interR at h
  cases ho : okE bs rs with
  | false =>
    rw [ho, if_neg (by simp)] at h
    simp only [Prod.mk.injEq] at h
    obtain ⟨rfl, rfl⟩ := h
    have HE : Hid (exactR bs rs = (0, 0, 1)) := by show _ = _; unfold exactR; rw [ho, if_neg (by simp)]
    have HV := Lib.hid hv
    have HU := Lib.hid hu
    clear hv hu ho
    go_enter Try.func14, Try.ntmps14
    go_wp2_with fail
    refine (interExact_any v u bs rs 0 0 1 HE _ HV.out HU.out).mono ?_
    rintro _ w1 ⟨rfl, hb1⟩
    go_wp2
    go_ret2
    exact ⟨rfl, hb1⟩
  | true =>
    rw [ho, if_pos rfl] at h
    obtain ⟨hi, hhi⟩ : ∃ hi, sumE bs rs bs.length / 18446744073709551616 = hi := ⟨_, rfl⟩
    obtain ⟨lo, hlo⟩ : ∃ lo, sumE bs rs bs.length % 18446744073709551616 = lo := ⟨_, rfl⟩
    obtain ⟨q, b, hq⟩ : ∃ q b, evQ (hi : Int) (lo : Int) 1000000000 = (q, b) := ⟨_, _, rfl⟩
    rw [ofR2_of hhi hlo hq] at h
    have hq0 := evQ_nn hq
    have HE : Hid (exactR bs rs = (hi, lo, 0)) := by show _ = _; unfold exactR; rw [ho, if_pos rfl, hhi, hlo]
    have HLO : Hid (lo < 18446744073709551616) := by show _ < _; omega
    have HQ := Lib.hid hq
    have HV := Lib.hid hv
    have HU := Lib.hid hu
    have HEV : Hid (∀ w, Calls Try.prog 38 #[.int .u64 hi, .int .u64 lo, .int .u64 1000000000] w (RetB (.tuple #[.int .u64 q, .bool b]) w)) := fun w => even_any hi lo 1000000000 q b HLO.out (by omega) HQ w
    clear hv hu ho hhi hlo hq
    cases b with
    | false =>
      rw [if_neg (by simp)] at h
      simp only [Prod.mk.injEq] at h
      obtain ⟨rfl, rfl⟩ := h
      go_enter Try.func14, Try.ntmps14
      go_wp2_with fail
      refine (interExact_any v u bs rs hi lo 0 HE _ HV.out HU.out).mono ?_
      rintro _ w1 ⟨rfl, hb1⟩
      go_wp2_with fail
      refine (HEV.out _).mono ?_
      rintro _ w2 ⟨rfl, hb2⟩
      go_wp2
      go_ret2
      exact ⟨rfl, bl_tr hb1 hb2⟩
    | true =>
      by_cases hqm : q ≤ 1000000000000000
      · rw [if_pos ⟨rfl, hqm⟩] at h
        simp only [Prod.mk.injEq] at h
        obtain ⟨rfl, rfl⟩ := h
        have d1 : decide (1000000000000000 < q) = false := by simp; omega
        have w1 : wrap64 q = q := IntWalk.wrap64_in _ ⟨by omega, by omega⟩
        have w2 : IntKind.i64.wrap q = q := IntWalk.i64_in _ ⟨by omega, by omega⟩
        go_enter Try.func14, Try.ntmps14
        go_wp2_with fail
        refine (interExact_any v u bs rs hi lo 0 HE _ HV.out HU.out).mono ?_
        rintro _ w1 ⟨rfl, hb1⟩
        go_wp2_with fail
        refine (HEV.out _).mono ?_
        rintro _ w2 ⟨rfl, hb2⟩
        go_wp2
        go_ret2
        exact ⟨rfl, bl_tr hb1 hb2⟩
      · rw [if_neg (by intro h; exact hqm h.2)] at h
        simp only [Prod.mk.injEq] at h
        obtain ⟨rfl, rfl⟩ := h
        have d1 : decide (1000000000000000 < q) = true := by simp; omega
        go_enter Try.func14, Try.ntmps14
        go_wp2_with fail
        refine (interExact_any v u bs rs hi lo 0 HE _ HV.out HU.out).mono ?_
        rintro _ w1 ⟨rfl, hb1⟩
        go_wp2_with fail
        refine (HEV.out _).mono ?_
        rintro _ w2 ⟨rfl, hb2⟩
        go_wp2
        go_ret2
        exact ⟨rfl, bl_tr hb1 hb2⟩

theorem awake13_any (w : World) : Calls Try.prog 15 #[] w (RetB (.bool true) w) := by
  have HI : Hid (interR [1000000000] [5] = (5, 0)) := by show _ = _; decide
  go_enter Try.func15, Try.ntmps15
  go_wp2_with fail
  refine (interOf_any _ _ [1000000000] [5] 5 0 HI _ ((Sl.lit _ _ [1000000000] 1 rfl _ rfl (by unfold maxLen; omega)).alloc _) (Sl.litAt _ _ [5] 1 _ rfl _ rfl (by unfold maxLen; omega) (by simp))).mono ?_
  rintro _ w1 ⟨rfl, hb1⟩
  go_wp2
  go_ret
  exact ⟨rfl, bl_tr (bl_al (bl_al (Below.refl _ _) _) _) hb1⟩
end Go.Proofs.Ytllblmoojohffaa
