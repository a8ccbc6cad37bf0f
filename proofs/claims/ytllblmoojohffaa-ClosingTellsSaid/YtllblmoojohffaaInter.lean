/- interest.Exact: the sum of all products. -/
import Derived.Test.YtllblmoojohffaaInterIdx
import Derived.Test.YtllblmoojohffaaShare
import Derived.Laws.Externs
import Derived.Deep.QuietTactic
import Derived.BigQuiet
namespace Go.Proofs.Ytllblmoojohffaa
open Go.RowKit EvM

theorem add64_run (x y c : Int) (s k : Nat) (hx : 0 ≤ x) (hy : 0 ≤ y) (hc : 0 ≤ c ∧ c ≤ 1) (hs : Hid ((x + y + c) % 18446744073709551616 = (s : Int))) (hk : Hid ((x + y + c) / 18446744073709551616 = (k : Int))) (w : World) :
    (callFunc 41 #[.int .u64 x, .int .u64 y, .int .u64 c]).run Try.prog w = .ok (.value (.tuple #[.int .u64 s, .int .u64 k])) w := by
  rw [run_callFunc_extern (e := add64Entry) Try.func41 (by kernel_rfl) (by kernel_rfl) (by kernel_rfl) (by kernel_rfl), run_add64 x y c hx hy hc.1 hc.2, hs.out, hk.out]
  rfl
theorem mul64_q (x y h l : Nat) (hx : x < 18446744073709551616) (hy : y < 18446744073709551616) (hh : Hid (x * y / 18446744073709551616 = h)) (hl : Hid (x * y % 18446744073709551616 = l)) (w : World) :
    Calls Try.prog 40 #[.int .u64 x, .int .u64 y] w (fun e w' => e = .returned (.tuple #[.int .u64 h, .int .u64 l]) ∧ w' = w) := by
  have := mul64_any x y hx hy w
  rw [hh.out, hl.out] at this
  exact this.mono fun _ _ h => ⟨h.1, h.2.symm⟩

set_option maxHeartbeats 1600000 in
set_option maxRecDepth 100000 in
theorem interExact_no (v u : Value) (bs rs : List Int) (h : okE bs rs = false) (w : World) (hv : Sl .i64 w v bs) (hu : Sl .i64 w u rs) :
    Calls Try.prog 16 #[v, u] w (RetB (.tuple #[.int .u64 0, .int .u64 0, .int .i64 1]) w) := by
  have HV := Lib.hid hv
  have HU := Lib.hid hu
  have HH := Lib.hid h
  obtain ⟨ao, cap, rfl, h1, ⟨h2, _⟩, h3⟩ := hv
  clear h3
  obtain ⟨ao', cap', rfl, h1', ⟨h2', _⟩, h3⟩ := hu
  clear h3 h
  unfold maxLen at h2 h2'
  go_enter Try.func16, Try.ntmps16
  go_wp2
  refine wp_scope_back 0 (fun _ _ => False) (fun _ _ => 0) rfl ?pass ?first
  case pass =>
    intro _ _ hJ
    exact hJ.elim
  case first =>
  intro J' hj1 hj2
  clear hj1 hj2
  by_cases e1 : bs.length = rs.length
  · have d1 : ((bs.length : Int) != (rs.length : Int)) = false := by simp [e1]
    by_cases e2 : bs.length ≤ 40000
    · have d2 : decide ((40000 : Int) < (bs.length : Int)) = false := by simp; omega
      cases e3 : bs.any (overB 1000000000000000) with
      | true =>
        have E3 : Hid (bs.any (overB 1000000000000000) = !false) := e3
        clear e1 e2 e3
        go_wp2_with fail
        refine (interWithin_any _ bs 1000000000000000 false E3 _ HV.out).mono ?_
        rintro _ w1 ⟨rfl, hb1⟩
        go_wp2
        simp only [Exit.jump]
        go_ret3
        exact ⟨rfl, hb1⟩
      | false =>
        have E3 : Hid (bs.any (overB 1000000000000000) = !true) := e3
        have E4 : Hid (rs.any (overB 10000000) = !false) := by
          show _ = _
          have h := HH.out
          unfold okE at h
          rw [e3] at h
          simpa [e1, show rs.length ≤ 40000 by omega] using h
        clear e1 e2 e3
        go_wp2_with fail
        refine (interWithin_any _ bs 1000000000000000 true E3 _ HV.out).mono ?_
        rintro _ w1 ⟨rfl, hb1⟩
        go_wp2_with fail
        refine (interWithin_any _ rs 10000000 false E4 _ (HU.out.below hb1)).mono ?_
        rintro _ w2 ⟨rfl, hb2⟩
        go_wp2
        simp only [Exit.jump]
        go_ret3
        exact ⟨rfl, bl_tr hb1 hb2⟩
    · have d2 : decide ((40000 : Int) < (bs.length : Int)) = true := by simp; omega
      clear e1
      go_wp2
      simp only [Exit.jump]
      go_ret3
      exact ⟨rfl, Below.refl _ _⟩
  · have d1 : ((bs.length : Int) != (rs.length : Int)) = true := by simp; omega
    go_wp2
    simp only [Exit.jump]
    go_ret3
    exact ⟨rfl, Below.refl _ _⟩

set_option maxHeartbeats 1600000 in
set_option maxRecDepth 100000 in
theorem interExact_yes (v u : Value) (bs rs : List Int) (h : okE bs rs = true) (S hi lo : Nat) (hS : Hid (sumE bs rs bs.length = S)) (hhi : Hid (S / 18446744073709551616 = hi)) (hlo : Hid (S % 18446744073709551616 = lo)) (w : World) (hv : Sl .i64 w v bs) (hu : Sl .i64 w u rs) :
    Calls Try.prog 16 #[v, u] w (RetB (.tuple #[.int .u64 hi, .int .u64 lo, .int .i64 0]) w) := by
  have HV := Lib.hid hv
  have HU := Lib.hid hu
  obtain ⟨ao, cap, rfl, h1, ⟨h2, _⟩, h3⟩ := hv
  clear h3
  obtain ⟨ao', cap', rfl, h1', ⟨h2', _⟩, h3⟩ := hu
  clear h3
  unfold maxLen at h2 h2'
  obtain ⟨e1, e2, e3, e4⟩ := okE_parts h
  have E3 : Hid (bs.any (overB 1000000000000000) = !true) := e3
  have E4 : Hid (rs.any (overB 10000000) = !true) := e4
  have HL := Lib.hid e1
  have HL2 := Lib.hid e2
  have HLE := Lib.hid (fun k => sumE_le e3 e4 k)
  have HB1 := Lib.hid (fun k => any_over e3 (by omega) k)
  have HB2 := Lib.hid (fun k => any_over e4 (by omega) k)
  clear h e1 e2 e3 e4
  go_enter Try.func16, Try.ntmps16
  go_wp2
  refine wp_scope_back 0 (fun a' w' => ∃ (k ph pl : Nat) (u2 u3 u9 u10 u11 u13 u14 u15 u16 u17 u18 u19 u20 u21 u22 u23 u24 u25 u26 u27 u28 u29 u30 u31 u32 u33 u34 u35 u36 u37 u38 u39 u40 u41 u42 u43 u44 u45 u46 u47 u48 u49 u50 u51 u52 u53 u54 u55 u56 u57 u58 u59 u60 u61 u62 u63 u64 u65 u66 u67 : Value), a' = { tmps := #[Value.slice ao bs.length cap, Value.slice ao' rs.length cap', u2, u3, .int .u64 0, .int .u64 0, .int .i64 0, .int .u64 ph, .int .u64 pl, u9, u10, u11, .int .i64 k, u13, u14, u15, u16, u17, u18, u19, u20, u21, u22, u23, u24, u25, u26, u27, u28, u29, u30, u31, u32, u33, u34, u35, u36, u37, u38, u39, u40, u41, u42, u43, u44, u45, u46, u47, u48, u49, u50, u51, u52, u53, u54, u55, u56, u57, u58, u59, u60, u61, u62, u63, u64, u65, u66, u67], defers := [] } ∧
      k ≤ bs.length ∧ Hid (sumE bs rs k / 18446744073709551616 = ph ∧ sumE bs rs k % 18446744073709551616 = pl) ∧ Below w.heap.size w w')
    (fun a' _ => bs.length - (intOf (a'.tmps.getD 12 undef)).toNat) rfl ?pass ?first
  case first =>
    intro J' _ hrest
    have HR := Lib.hid hrest
    clear hrest
    have d1 : ((bs.length : Int) != (rs.length : Int)) = false := by have := HL.out; simp [this]
    have d2 : decide ((40000 : Int) < (bs.length : Int)) = false := by have := HL2.out; simp; omega
    go_wp2_with fail
    refine (interWithin_any _ bs 1000000000000000 true E3 _ HV.out).mono ?_
    rintro _ w1 ⟨rfl, hb1⟩
    go_wp2_with fail
    refine (interWithin_any _ rs 10000000 true E4 _ (HU.out.below hb1)).mono ?_
    rintro _ w2 ⟨rfl, hb2⟩
    go_wp2_with fail
    go_step3
    go_step
    go_step
    exact HR.out _ _ ⟨0, 0, 0, _, _, _, _, _, _, _, _, _, _, _, _, _, _, _, _, _, _, _, _, _, _, _, _, _, _, _, _, _, _, _, _, _, _, _, _, _, _, _, _, _, _, _, _, _, _, _, _, _, _, _, _, _, _, _, _, _, _, _, _, rfl, Nat.zero_le _, by show _ ∧ _; simp [sumE], bl_tr hb1 hb2⟩
  case pass =>
    intro a1 w1 hJ J' hJ'
    obtain ⟨k, ph, pl, hJ⟩ := hJ
    obtain ⟨u2, hJ⟩ := hJ
    obtain ⟨u3, hJ⟩ := hJ
    obtain ⟨u9, hJ⟩ := hJ
    obtain ⟨u10, hJ⟩ := hJ
    obtain ⟨u11, hJ⟩ := hJ
    obtain ⟨u13, hJ⟩ := hJ
    obtain ⟨u14, hJ⟩ := hJ
    obtain ⟨u15, hJ⟩ := hJ
    obtain ⟨u16, hJ⟩ := hJ
    obtain ⟨u17, hJ⟩ := hJ
    obtain ⟨u18, hJ⟩ := hJ
    obtain ⟨u19, hJ⟩ := hJ
    obtain ⟨u20, hJ⟩ := hJ
    obtain ⟨u21, hJ⟩ := hJ
    obtain ⟨u22, hJ⟩ := hJ
    obtain ⟨u23, hJ⟩ := hJ
    obtain ⟨u24, hJ⟩ := hJ
    obtain ⟨u25, hJ⟩ := hJ
    obtain ⟨u26, hJ⟩ := hJ
    obtain ⟨u27, hJ⟩ := hJ
    obtain ⟨u28, hJ⟩ := hJ
    obtain ⟨u29, hJ⟩ := hJ
    obtain ⟨u30, hJ⟩ := hJ
    obtain ⟨u31, hJ⟩ := hJ
    obtain ⟨u32, hJ⟩ := hJ
    obtain ⟨u33, hJ⟩ := hJ
    obtain ⟨u34, hJ⟩ := hJ
    obtain ⟨u35, hJ⟩ := hJ
    obtain ⟨u36, hJ⟩ := hJ
    obtain ⟨u37, hJ⟩ := hJ
    obtain ⟨u38, hJ⟩ := hJ
    obtain ⟨u39, hJ⟩ := hJ
    obtain ⟨u40, hJ⟩ := hJ
    obtain ⟨u41, hJ⟩ := hJ
    obtain ⟨u42, hJ⟩ := hJ
    obtain ⟨u43, hJ⟩ := hJ
    obtain ⟨u44, hJ⟩ := hJ
    obtain ⟨u45, hJ⟩ := hJ
    obtain ⟨u46, hJ⟩ := hJ
    obtain ⟨u47, hJ⟩ := hJ
    obtain ⟨u48, hJ⟩ := hJ
    obtain ⟨u49, hJ⟩ := hJ
    obtain ⟨u50, hJ⟩ := hJ
    obtain ⟨u51, hJ⟩ := hJ
    obtain ⟨u52, hJ⟩ := hJ
    obtain ⟨u53, hJ⟩ := hJ
    obtain ⟨u54, hJ⟩ := hJ
    obtain ⟨u55, hJ⟩ := hJ
    obtain ⟨u56, hJ⟩ := hJ
    obtain ⟨u57, hJ⟩ := hJ
    obtain ⟨u58, hJ⟩ := hJ
    obtain ⟨u59, hJ⟩ := hJ
    obtain ⟨u60, hJ⟩ := hJ
    obtain ⟨u61, hJ⟩ := hJ
    obtain ⟨u62, hJ⟩ := hJ
    obtain ⟨u63, hJ⟩ := hJ
    obtain ⟨u64, hJ⟩ := hJ
    obtain ⟨u65, hJ⟩ := hJ
    obtain ⟨u66, hJ⟩ := hJ
    obtain ⟨u67, hJ⟩ := hJ
    obtain ⟨ha', hkn, HP, hbw⟩ := hJ
    subst ha'
    by_cases hlt : k < bs.length
    · have d0 : ((k : Int) == (bs.length : Int)) = false := by simp; omega
      obtain ⟨b, o, x, rfl, hcx, hx⟩ := (HV.out.below hbw).get (i := k) hlt
      obtain ⟨b', o', y, rfl, hcy, hy⟩ := (HU.out.below hbw).get (i := k) (by have := HL.out; omega)
      have hx0 := HB1.out k
      have hy0 := HB2.out k
      rw [hx.out] at hx0
      rw [hy.out] at hy0
      obtain ⟨X, rfl⟩ := Int.eq_ofNat_of_zero_le hx0.1
      obtain ⟨Y, rfl⟩ := Int.eq_ofNat_of_zero_le hy0.1
      have wX : IntKind.u64.wrap (X : Int) = X := by rw [IntKind.wrap_u64]; omega
      have wY : IntKind.u64.wrap (Y : Int) = Y := by rw [IntKind.wrap_u64]; omega
      obtain ⟨h, hh⟩ : ∃ h, X * Y / 18446744073709551616 = h := ⟨_, rfl⟩
      obtain ⟨l, hl⟩ : ∃ l, X * Y % 18446744073709551616 = l := ⟨_, rfl⟩
      have hn : sumE bs rs (k + 1) = sumE bs rs k + X * Y := by simp only [sumE, hx.out, hy.out, Int.toNat_natCast]
      have hle := HLE.out (k + 1)
      rw [hn] at hle
      obtain ⟨l2, hl2⟩ : ∃ l2, (pl + l) % 18446744073709551616 = l2 := ⟨_, rfl⟩
      obtain ⟨c, hc⟩ : ∃ c, (pl + l) / 18446744073709551616 = c := ⟨_, rfl⟩
      obtain ⟨h2, hh2⟩ : ∃ h2, (ph + h + c) % 18446744073709551616 = h2 := ⟨_, rfl⟩
      obtain ⟨g1, g2, g3, g4⟩ := sum_step (sumE bs rs k) (X * Y) ph pl h l c l2 h2 HP.out.1 HP.out.2 hh hl hl2 hc hh2 (by have := HL2.out; omega)
      have A1 := fun W => add64_run (pl : Int) (l : Int) 0 l2 c (by omega) (by omega) (by omega) (by show _ = _; omega) (by show _ = _; omega) W
      have A2 := fun W => add64_run (ph : Int) (h : Int) (c : Int) h2 0 (by omega) (by omega) (by omega) (by show _ = _; omega) (by show _ = _; omega) W
      have HG : Hid (sumE bs rs (k + 1) / 18446744073709551616 = h2 ∧ sumE bs rs (k + 1) % 18446744073709551616 = l2) := by rw [hn]; exact ⟨g1, g2⟩
      have HM := Lib.hid (fun W => mul64_q X Y h l (by omega) (by omega) hh hl W)
      have HX := Lib.hid hbw
      have hi1 : (k : Int) < (bs.length : Int) := by omega
      have hi2 : (k : Int) < (rs.length : Int) := by have := HL.out; omega
      clear hx0 hy0 hh hl hn hle hl2 hc hh2 g1 g2 g3 g4 HP hbw
      go_wp2_with fail
      go_quiet ((go_at_call 40; exact Calls.quiet_of_same (HM.out _)))
      go_wp2_with (first | simp only [A1] | simp only [A2])
      go_step3
      refine ⟨rfl, hJ' _ _ ⟨k + 1, h2, l2, _, _, _, _, _, _, _, _, _, _, _, _, _, _, _, _, _, _, _, _, _, _, _, _, _, _, _, _, _, _, _, _, _, _, _, _, _, _, _, _, _, _, _, _, _, _, _, _, _, _, _, _, _, _, _, _, _, _, _, _, rfl, by omega, HG, bl_dN HX.out _⟩ ?_⟩
      simp [intOf]
      omega
    · obtain rfl : k = bs.length := by omega
      have d0 : ((bs.length : Int) == (bs.length : Int)) = true := by simp
      have X := Lib.hid hbw
      have HP2 : Hid (ph = hi ∧ pl = lo) := by
        have h := HP.out
        rw [hS.out, hhi.out, hlo.out] at h
        exact ⟨h.1.symm, h.2.symm⟩
      obtain ⟨rfl, rfl⟩ := HP2.out
      clear hbw HP HP2
      go_wp2
      simp only [Exit.jump]
      go_ret3
      exact ⟨rfl, X.out⟩

/-- The exact sum, in two words, and why not. -/
theorem interExact_any (v u : Value) (bs rs : List Int) (hi lo : Nat) (e : Int) (h : Hid (exactR bs rs = (hi, lo, e))) (w : World) (hv : Sl .i64 w v bs) (hu : Sl .i64 w u rs) :
    Calls Try.prog 16 #[v, u] w (RetB (.tuple #[.int .u64 hi, .int .u64 lo, .int .i64 e]) w) := by
  have h := h.out
  unfold exactR at h
  cases ho : okE bs rs with
  | false =>
    rw [ho, if_neg (by simp)] at h
    simp only [Prod.mk.injEq] at h
    obtain ⟨rfl, rfl, rfl⟩ := h
    exact interExact_no v u bs rs ho w hv hu
  | true =>
    rw [ho, if_pos rfl] at h
    simp only [Prod.mk.injEq] at h
    obtain ⟨h1, h2, rfl⟩ := h
    exact interExact_yes v u bs rs ho _ hi lo rfl h1 h2 w hv hu
end Go.Proofs.Ytllblmoojohffaa
