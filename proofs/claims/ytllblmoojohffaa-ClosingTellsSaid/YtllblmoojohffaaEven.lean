/- cash.May, cash.Even. -/
import Derived.Test.YtllblmoojohffaaDiv64
import Derived.Test.YtllblmoojohffaaCashMath
namespace Go.Proofs.Ytllblmoojohffaa
open Go.RowKit EvM

theorem may_any (v : Int) (w : World) : Calls Try.prog 62 #[.int .i64 v] w (Ret (.bool (mayM v)) w) := by
  by_cases h1 : -1000000000000000 ≤ v
  · by_cases h2 : v ≤ 1000000000000000
    · go_enter Try.func62, Try.ntmps62
      go_wp2
      go_ret
      simp [Ret, mayM, h1, h2]
    · go_enter Try.func62, Try.ntmps62
      go_wp2
      go_ret
      simp [Ret, mayM, h1, h2]
  · go_enter Try.func62, Try.ntmps62
    go_wp2
    go_ret
    simp [Ret, mayM]
    omega
theorem may_is {v : Int} {r : Bool} (h : mayM v = r) (w : World) : Calls Try.prog 62 #[.int .i64 v] w (Ret (.bool r) w) := by rw [← h]; exact may_any v w

/-- The ways of Even. -/
theorem evQ_no {hi lo den : Nat} {q : Int} {b : Bool} (h : evQ hi lo den = (q, b)) (hc : den ≤ hi) : q = 0 ∧ b = false := by
  unfold evQ at h
  rw [if_pos (by omega)] at h
  injection h with h1 h2
  exact ⟨h1.symm, h2.symm⟩
theorem evQ_yes {hi lo den n : Nat} {q : Int} {b : Bool} (h : evQ hi lo den = (q, b)) (hc : ¬ den ≤ hi) (hn : hi * 18446744073709551616 + lo = n) :
    (evenN n den < 18446744073709551616 → q = (evenN n den : Int) ∧ b = true) ∧ (¬ evenN n den < 18446744073709551616 → q = 0 ∧ b = false) := by
  unfold evQ at h
  have e : ((hi : Int) * 18446744073709551616 + (lo : Int)) = (n : Int) := by omega
  rw [if_neg (by omega), e, Int.toNat_natCast, Int.toNat_natCast] at h
  split at h
  · rename_i hx
    injection h with h1 h2
    exact ⟨fun _ => ⟨h1.symm, h2.symm⟩, fun h => absurd hx h⟩
  · rename_i hx
    injection h with h1 h2
    exact ⟨fun h => absurd h hx, fun _ => ⟨h1.symm, h2.symm⟩⟩

set_option maxHeartbeats 1600000 in
set_option maxRecDepth 100000 in
theorem even_any (hi lo den : Nat) (q : Int) (b : Bool) (hlo : lo < 18446744073709551616) (hden : den < 18446744073709551616) (hq : Hid (evQ hi lo den = (q, b))) (w : World) :
    Calls Try.prog 38 #[.int .u64 hi, .int .u64 lo, .int .u64 den] w (RetB (.tuple #[.int .u64 q, .bool b]) w) := by
  by_cases hc : den ≤ hi
  · have HQ := Lib.hid (evQ_no hq.out hc)
    have d1 : decide ((den : Int) ≤ (hi : Int)) = true := by simp; omega
    clear hq
    go_enter Try.func38, Try.ntmps38
    go_wp2
    refine wp_scope_back 0 (fun a' w' => ∃ (u0 u1 u2 u3 u4 u5 u6 u7 u8 u9 u10 u11 u12 u13 u14 u15 u16 u17 u18 u19 u20 u21 u22 u23 u24 u25 u26 u27 u28 u29 u30 u31 u32 u33 u34 u35 u36 u37 u38 u39 u40 u41 u42 : Value), a' = { tmps := #[u0, u1, u2, u3, u4, u5, u6, u7, u8, u9, u10, u11, u12, u13, u14, u15, u16, u17, u18, u19, u20, u21, u22, u23, u24, u25, u26, u27, u28, u29, u30, u31, u32, u33, u34, u35, u36, u37, u38, u39, u40, u41, u42], defers := [] } ∧ Hid (q = 0 ∧ b = false) ∧ Below w.heap.size w w')
      (fun _ _ => 0) rfl ?pass ?first
    case pass =>
      intro a1 w1 hJ J' hJ'
      clear hJ'
      obtain ⟨u0, hJ⟩ := hJ
      obtain ⟨u1, hJ⟩ := hJ
      obtain ⟨u2, hJ⟩ := hJ
      obtain ⟨u3, hJ⟩ := hJ
      obtain ⟨u4, hJ⟩ := hJ
      obtain ⟨u5, hJ⟩ := hJ
      obtain ⟨u6, hJ⟩ := hJ
      obtain ⟨u7, hJ⟩ := hJ
      obtain ⟨u8, hJ⟩ := hJ
      obtain ⟨u9, hJ⟩ := hJ
      obtain ⟨u10, hJ⟩ := hJ
      obtain ⟨u11, hJ⟩ := hJ
      obtain ⟨u12, hJ⟩ := hJ
      obtain ⟨u13, hJ⟩ := hJ
      obtain ⟨u14, hJ⟩ := hJ
      obtain ⟨u15, hJ⟩ := hJ
      obtain ⟨u16, hJ⟩ := hJ
      obtain ⟨u17, hJ⟩ := hJ
      obtain ⟨u18, hJ⟩ := hJ
      obtain ⟨u19, hJ⟩ := hJ
      obtain ⟨u20, hJ⟩ := hJ
      obtain ⟨u21, hJ⟩ := hJ
      obtain ⟨u22, hJ⟩ := hJ
      obtain ⟨u23, hJ⟩ := hJ
      obtain ⟨u24, hJ⟩ := hJ
      obtain ⟨u25, hJ⟩ := hJ
      obtain ⟨u26, hJ⟩ := hJ
      obtain ⟨u27, hJ⟩ := hJ
      obtain ⟨u28, hJ⟩ := hJ
      obtain ⟨u29, hJ⟩ := hJ
      obtain ⟨u30, hJ⟩ := hJ
      obtain ⟨u31, hJ⟩ := hJ
      obtain ⟨u32, hJ⟩ := hJ
      obtain ⟨u33, hJ⟩ := hJ
      obtain ⟨u34, hJ⟩ := hJ
      obtain ⟨u35, hJ⟩ := hJ
      obtain ⟨u36, hJ⟩ := hJ
      obtain ⟨u37, hJ⟩ := hJ
      obtain ⟨u38, hJ⟩ := hJ
      obtain ⟨u39, hJ⟩ := hJ
      obtain ⟨u40, hJ⟩ := hJ
      obtain ⟨u41, hJ⟩ := hJ
      obtain ⟨u42, hJ⟩ := hJ
      obtain ⟨rfl, hqb, hb⟩ := hJ
      go_wp2
      simp only [Exit.jump]
      go_ret2
      rw [hqb.out.1, hqb.out.2]
      exact ⟨rfl, hb⟩
    case first =>
      intro J' hJJ hrest
      have HJ := Lib.hid hJJ
      have HREST := Lib.hid hrest
      clear hJJ hrest
      go_wp2
      go_step3
      exact ⟨rfl, HJ.out _ _ ⟨_, _, _, _, _, _, _, _, _, _, _, _, _, _, _, _, _, _, _, _, _, _, _, _, _, _, _, _, _, _, _, _, _, _, _, _, _, _, _, _, _, _, _, rfl, HQ, Below.refl _ _⟩⟩
  · obtain ⟨n, hn⟩ : ∃ n, hi * 18446744073709551616 + lo = n := ⟨_, rfl⟩
    have HQY := Lib.hid (evQ_yes hq.out hc hn)
    obtain ⟨q0, hq0⟩ : ∃ x, (hi * 18446744073709551616 + lo) / den = x := ⟨_, rfl⟩
    obtain ⟨r0, hr0⟩ : ∃ x, (hi * 18446744073709551616 + lo) % den = x := ⟨_, rfl⟩
    have HQ0 := Lib.hid hq0
    have HR0 := Lib.hid hr0
    have hrl : r0 < den := by rw [← hr0]; exact Nat.mod_lt _ (by omega)
    have hql : q0 < 18446744073709551616 := by
      rw [← hq0, Nat.div_lt_iff_lt_mul (by omega)]
      have : (hi + 1) * 18446744073709551616 ≤ den * 18446744073709551616 := Nat.mul_le_mul_right _ (by omega)
      rw [Nat.mul_comm]
      omega
    rw [hn] at hq0 hr0
    have HEV : Hid (evenN n den = if r0 < den - r0 ∨ (r0 = den - r0 ∧ q0 % 2 = 0) then q0 else q0 + 1) := by
      show _ = _
      unfold evenN
      rw [hq0, hr0]
    clear hq hn hq0 hr0
    obtain ⟨d2, hd2⟩ : ∃ x, den - r0 = x := ⟨_, rfl⟩
    obtain ⟨q1, hq1⟩ : ∃ x, (q0 + 1) % 18446744073709551616 = x := ⟨_, rfl⟩
    rw [hd2] at HEV
    have d1 : decide ((den : Int) ≤ (hi : Int)) = false := by simp; omega
    have s1 : IntKind.u64.wrap ((den : Int) - (r0 : Int)) = (d2 : Int) := by rw [u64_wrap]; omega
    have s2 : IntKind.u64.wrap ((q0 : Int) + 1) = (q1 : Int) := by rw [u64_wrap]; omega
    have HQ1 := Lib.hid hq1
    have HRL := Lib.hid hrl
    have HQL := Lib.hid hql
    clear hd2 hq1 hrl hql
    by_cases hA : r0 < d2
    · have HR := Lib.hid (HQY.out.1 (by rw [HEV.out, if_pos (Or.inl hA)]; exact HQL.out))
      rw [HEV.out, if_pos (Or.inl hA)] at HR
      clear HQY HEV
      go_enter Try.func38, Try.ntmps38
      go_wp2
      refine wp_scope_back 0 (fun a' w' => ∃ (u0 u1 u2 u3 u4 u5 u6 u7 u8 u9 u10 u11 u12 u13 u14 u15 u16 u17 u18 u19 u20 u21 u22 u23 u24 u25 u26 u27 u28 u29 u30 u31 u32 u33 u34 u35 u36 u37 u38 u39 u40 u41 u42 : Value), a' = { tmps := #[u0, u1, u2, u3, u4, u5, u6, u7, u8, u9, u10, u11, u12, u13, u14, u15, u16, u17, u18, u19, u20, u21, u22, u23, u24, u25, u26, u27, u28, u29, u30, u31, u32, u33, u34, u35, u36, u37, u38, u39, u40, u41, u42], defers := [] } ∧ Hid (q = 0 ∧ b = false) ∧ Below w.heap.size w w')
        (fun _ _ => 0) rfl ?pass ?first
      case pass =>
        intro a1 w1 hJ J' hJ'
        clear hJ'
        obtain ⟨u0, hJ⟩ := hJ
        obtain ⟨u1, hJ⟩ := hJ
        obtain ⟨u2, hJ⟩ := hJ
        obtain ⟨u3, hJ⟩ := hJ
        obtain ⟨u4, hJ⟩ := hJ
        obtain ⟨u5, hJ⟩ := hJ
        obtain ⟨u6, hJ⟩ := hJ
        obtain ⟨u7, hJ⟩ := hJ
        obtain ⟨u8, hJ⟩ := hJ
        obtain ⟨u9, hJ⟩ := hJ
        obtain ⟨u10, hJ⟩ := hJ
        obtain ⟨u11, hJ⟩ := hJ
        obtain ⟨u12, hJ⟩ := hJ
        obtain ⟨u13, hJ⟩ := hJ
        obtain ⟨u14, hJ⟩ := hJ
        obtain ⟨u15, hJ⟩ := hJ
        obtain ⟨u16, hJ⟩ := hJ
        obtain ⟨u17, hJ⟩ := hJ
        obtain ⟨u18, hJ⟩ := hJ
        obtain ⟨u19, hJ⟩ := hJ
        obtain ⟨u20, hJ⟩ := hJ
        obtain ⟨u21, hJ⟩ := hJ
        obtain ⟨u22, hJ⟩ := hJ
        obtain ⟨u23, hJ⟩ := hJ
        obtain ⟨u24, hJ⟩ := hJ
        obtain ⟨u25, hJ⟩ := hJ
        obtain ⟨u26, hJ⟩ := hJ
        obtain ⟨u27, hJ⟩ := hJ
        obtain ⟨u28, hJ⟩ := hJ
        obtain ⟨u29, hJ⟩ := hJ
        obtain ⟨u30, hJ⟩ := hJ
        obtain ⟨u31, hJ⟩ := hJ
        obtain ⟨u32, hJ⟩ := hJ
        obtain ⟨u33, hJ⟩ := hJ
        obtain ⟨u34, hJ⟩ := hJ
        obtain ⟨u35, hJ⟩ := hJ
        obtain ⟨u36, hJ⟩ := hJ
        obtain ⟨u37, hJ⟩ := hJ
        obtain ⟨u38, hJ⟩ := hJ
        obtain ⟨u39, hJ⟩ := hJ
        obtain ⟨u40, hJ⟩ := hJ
        obtain ⟨u41, hJ⟩ := hJ
        obtain ⟨u42, hJ⟩ := hJ
        obtain ⟨rfl, hqb, hb⟩ := hJ
        go_wp2
        simp only [Exit.jump]
        go_ret2
        rw [hqb.out.1, hqb.out.2]
        exact ⟨rfl, hb⟩
      case first =>
        intro J' hJJ hrest
        have HJ := Lib.hid hJJ
        have HREST := Lib.hid hrest
        clear hJJ hrest
        go_wp2_with fail
        refine (div64_any hi lo den hlo hden (by omega) q0 r0 HQ0 HR0 _).mono ?_
        rintro e w1 ⟨rfl, hb1⟩
        go_wp2
        simp only [Exit.jump]
        go_ret2
        rw [HR.out.1, HR.out.2]
        exact ⟨rfl, hb1⟩
    · by_cases hB : r0 = d2 ∧ q0 % 2 = 0
      · have HR := Lib.hid (HQY.out.1 (by rw [HEV.out, if_pos (Or.inr hB)]; exact HQL.out))
        rw [HEV.out, if_pos (Or.inr hB)] at HR
        obtain ⟨hB1, hB2⟩ := hB
        have b1 : ((r0 : Int) == (d2 : Int)) = true := by simp [hB1]
        have b2 : ((q0 : Int) % 2 == 0) = true := by rw [beq_iff_eq]; omega
        have b3 : decide (r0 = d2) = true := by simp [hB1]
        have b4 : decide (q0 % 2 = 0) = true := by simp [hB2]
        clear HQY HEV hB1 hB2
        go_enter Try.func38, Try.ntmps38
        go_wp2
        refine wp_scope_back 0 (fun a' w' => ∃ (u0 u1 u2 u3 u4 u5 u6 u7 u8 u9 u10 u11 u12 u13 u14 u15 u16 u17 u18 u19 u20 u21 u22 u23 u24 u25 u26 u27 u28 u29 u30 u31 u32 u33 u34 u35 u36 u37 u38 u39 u40 u41 u42 : Value), a' = { tmps := #[u0, u1, u2, u3, u4, u5, u6, u7, u8, u9, u10, u11, u12, u13, u14, u15, u16, u17, u18, u19, u20, u21, u22, u23, u24, u25, u26, u27, u28, u29, u30, u31, u32, u33, u34, u35, u36, u37, u38, u39, u40, u41, u42], defers := [] } ∧ Hid (q = 0 ∧ b = false) ∧ Below w.heap.size w w')
          (fun _ _ => 0) rfl ?pass ?first
        case pass =>
          intro a1 w1 hJ J' hJ'
          clear hJ'
          obtain ⟨u0, hJ⟩ := hJ
          obtain ⟨u1, hJ⟩ := hJ
          obtain ⟨u2, hJ⟩ := hJ
          obtain ⟨u3, hJ⟩ := hJ
          obtain ⟨u4, hJ⟩ := hJ
          obtain ⟨u5, hJ⟩ := hJ
          obtain ⟨u6, hJ⟩ := hJ
          obtain ⟨u7, hJ⟩ := hJ
          obtain ⟨u8, hJ⟩ := hJ
          obtain ⟨u9, hJ⟩ := hJ
          obtain ⟨u10, hJ⟩ := hJ
          obtain ⟨u11, hJ⟩ := hJ
          obtain ⟨u12, hJ⟩ := hJ
          obtain ⟨u13, hJ⟩ := hJ
          obtain ⟨u14, hJ⟩ := hJ
          obtain ⟨u15, hJ⟩ := hJ
          obtain ⟨u16, hJ⟩ := hJ
          obtain ⟨u17, hJ⟩ := hJ
          obtain ⟨u18, hJ⟩ := hJ
          obtain ⟨u19, hJ⟩ := hJ
          obtain ⟨u20, hJ⟩ := hJ
          obtain ⟨u21, hJ⟩ := hJ
          obtain ⟨u22, hJ⟩ := hJ
          obtain ⟨u23, hJ⟩ := hJ
          obtain ⟨u24, hJ⟩ := hJ
          obtain ⟨u25, hJ⟩ := hJ
          obtain ⟨u26, hJ⟩ := hJ
          obtain ⟨u27, hJ⟩ := hJ
          obtain ⟨u28, hJ⟩ := hJ
          obtain ⟨u29, hJ⟩ := hJ
          obtain ⟨u30, hJ⟩ := hJ
          obtain ⟨u31, hJ⟩ := hJ
          obtain ⟨u32, hJ⟩ := hJ
          obtain ⟨u33, hJ⟩ := hJ
          obtain ⟨u34, hJ⟩ := hJ
          obtain ⟨u35, hJ⟩ := hJ
          obtain ⟨u36, hJ⟩ := hJ
          obtain ⟨u37, hJ⟩ := hJ
          obtain ⟨u38, hJ⟩ := hJ
          obtain ⟨u39, hJ⟩ := hJ
          obtain ⟨u40, hJ⟩ := hJ
          obtain ⟨u41, hJ⟩ := hJ
          obtain ⟨u42, hJ⟩ := hJ
          obtain ⟨rfl, hqb, hb⟩ := hJ
          go_wp2
          simp only [Exit.jump]
          go_ret2
          rw [hqb.out.1, hqb.out.2]
          exact ⟨rfl, hb⟩
        case first =>
          intro J' hJJ hrest
          have HJ := Lib.hid hJJ
          have HREST := Lib.hid hrest
          clear hJJ hrest
          go_wp2_with fail
          refine (div64_any hi lo den hlo hden (by omega) q0 r0 HQ0 HR0 _).mono ?_
          rintro e w1 ⟨rfl, hb1⟩
          go_wp2
          simp only [Exit.jump]
          go_ret2
          rw [HR.out.1, HR.out.2]
          exact ⟨rfl, hb1⟩
      · have HE2 : Hid (evenN n den = q0 + 1) := by
          show _ = _
          rw [HEV.out, if_neg (by omega)]
        have key : (r0 = d2 ∧ ¬ q0 % 2 = 0) ∨ (¬ r0 = d2) := by omega
        by_cases hz : q0 = 18446744073709551615
        · have HR := Lib.hid (HQY.out.2 (by rw [HE2.out]; omega))
          have z1 : decide ((0 : Int) < (q1 : Int)) = false := by have := HQ1.out; simp; omega
          have z2 : decide (0 < q1) = false := by have := HQ1.out; simp; omega
          clear HQY HEV HE2 hB hz
          rcases key with ⟨hB1, hB2⟩ | hB1
          · have b1 : ((r0 : Int) == (d2 : Int)) = true := by simp [hB1]
            have b2 : ((q0 : Int) % 2 == 0) = false := by rw [beq_eq_false_iff_ne]; omega
            clear hB1 hB2
            go_enter Try.func38, Try.ntmps38
            go_wp2
            refine wp_scope_back 0 (fun a' w' => ∃ (u0 u1 u2 u3 u4 u5 u6 u7 u8 u9 u10 u11 u12 u13 u14 u15 u16 u17 u18 u19 u20 u21 u22 u23 u24 u25 u26 u27 u28 u29 u30 u31 u32 u33 u34 u35 u36 u37 u38 u39 u40 u41 u42 : Value), a' = { tmps := #[u0, u1, u2, u3, u4, u5, u6, u7, u8, u9, u10, u11, u12, u13, u14, u15, u16, u17, u18, u19, u20, u21, u22, u23, u24, u25, u26, u27, u28, u29, u30, u31, u32, u33, u34, u35, u36, u37, u38, u39, u40, u41, u42], defers := [] } ∧ Hid (q = 0 ∧ b = false) ∧ Below w.heap.size w w')
              (fun _ _ => 0) rfl ?pass ?first
            case pass =>
              intro a1 w1 hJ J' hJ'
              clear hJ'
              obtain ⟨u0, hJ⟩ := hJ
              obtain ⟨u1, hJ⟩ := hJ
              obtain ⟨u2, hJ⟩ := hJ
              obtain ⟨u3, hJ⟩ := hJ
              obtain ⟨u4, hJ⟩ := hJ
              obtain ⟨u5, hJ⟩ := hJ
              obtain ⟨u6, hJ⟩ := hJ
              obtain ⟨u7, hJ⟩ := hJ
              obtain ⟨u8, hJ⟩ := hJ
              obtain ⟨u9, hJ⟩ := hJ
              obtain ⟨u10, hJ⟩ := hJ
              obtain ⟨u11, hJ⟩ := hJ
              obtain ⟨u12, hJ⟩ := hJ
              obtain ⟨u13, hJ⟩ := hJ
              obtain ⟨u14, hJ⟩ := hJ
              obtain ⟨u15, hJ⟩ := hJ
              obtain ⟨u16, hJ⟩ := hJ
              obtain ⟨u17, hJ⟩ := hJ
              obtain ⟨u18, hJ⟩ := hJ
              obtain ⟨u19, hJ⟩ := hJ
              obtain ⟨u20, hJ⟩ := hJ
              obtain ⟨u21, hJ⟩ := hJ
              obtain ⟨u22, hJ⟩ := hJ
              obtain ⟨u23, hJ⟩ := hJ
              obtain ⟨u24, hJ⟩ := hJ
              obtain ⟨u25, hJ⟩ := hJ
              obtain ⟨u26, hJ⟩ := hJ
              obtain ⟨u27, hJ⟩ := hJ
              obtain ⟨u28, hJ⟩ := hJ
              obtain ⟨u29, hJ⟩ := hJ
              obtain ⟨u30, hJ⟩ := hJ
              obtain ⟨u31, hJ⟩ := hJ
              obtain ⟨u32, hJ⟩ := hJ
              obtain ⟨u33, hJ⟩ := hJ
              obtain ⟨u34, hJ⟩ := hJ
              obtain ⟨u35, hJ⟩ := hJ
              obtain ⟨u36, hJ⟩ := hJ
              obtain ⟨u37, hJ⟩ := hJ
              obtain ⟨u38, hJ⟩ := hJ
              obtain ⟨u39, hJ⟩ := hJ
              obtain ⟨u40, hJ⟩ := hJ
              obtain ⟨u41, hJ⟩ := hJ
              obtain ⟨u42, hJ⟩ := hJ
              obtain ⟨rfl, hqb, hb⟩ := hJ
              go_wp2
              simp only [Exit.jump]
              go_ret2
              rw [hqb.out.1, hqb.out.2]
              exact ⟨rfl, hb⟩
            case first =>
              intro J' hJJ hrest
              have HJ := Lib.hid hJJ
              have HREST := Lib.hid hrest
              clear hJJ hrest
              go_wp2_with fail
              refine (div64_any hi lo den hlo hden (by omega) q0 r0 HQ0 HR0 _).mono ?_
              rintro e w1 ⟨rfl, hb1⟩
              go_wp2
              go_step3
              go_step
              go_step
              exact HREST.out _ _ ⟨_, _, _, _, _, _, _, _, _, _, _, _, _, _, _, _, _, _, _, _, _, _, _, _, _, _, _, _, _, _, _, _, _, _, _, _, _, _, _, _, _, _, _, rfl, HR, hb1⟩
          · have b1 : ((r0 : Int) == (d2 : Int)) = false := by rw [beq_eq_false_iff_ne]; omega
            clear hB1
            go_enter Try.func38, Try.ntmps38
            go_wp2
            refine wp_scope_back 0 (fun a' w' => ∃ (u0 u1 u2 u3 u4 u5 u6 u7 u8 u9 u10 u11 u12 u13 u14 u15 u16 u17 u18 u19 u20 u21 u22 u23 u24 u25 u26 u27 u28 u29 u30 u31 u32 u33 u34 u35 u36 u37 u38 u39 u40 u41 u42 : Value), a' = { tmps := #[u0, u1, u2, u3, u4, u5, u6, u7, u8, u9, u10, u11, u12, u13, u14, u15, u16, u17, u18, u19, u20, u21, u22, u23, u24, u25, u26, u27, u28, u29, u30, u31, u32, u33, u34, u35, u36, u37, u38, u39, u40, u41, u42], defers := [] } ∧ Hid (q = 0 ∧ b = false) ∧ Below w.heap.size w w')
              (fun _ _ => 0) rfl ?pass ?first
            case pass =>
              intro a1 w1 hJ J' hJ'
              clear hJ'
              obtain ⟨u0, hJ⟩ := hJ
              obtain ⟨u1, hJ⟩ := hJ
              obtain ⟨u2, hJ⟩ := hJ
              obtain ⟨u3, hJ⟩ := hJ
              obtain ⟨u4, hJ⟩ := hJ
              obtain ⟨u5, hJ⟩ := hJ
              obtain ⟨u6, hJ⟩ := hJ
              obtain ⟨u7, hJ⟩ := hJ
              obtain ⟨u8, hJ⟩ := hJ
              obtain ⟨u9, hJ⟩ := hJ
              obtain ⟨u10, hJ⟩ := hJ
              obtain ⟨u11, hJ⟩ := hJ
              obtain ⟨u12, hJ⟩ := hJ
              obtain ⟨u13, hJ⟩ := hJ
              obtain ⟨u14, hJ⟩ := hJ
              obtain ⟨u15, hJ⟩ := hJ
              obtain ⟨u16, hJ⟩ := hJ
              obtain ⟨u17, hJ⟩ := hJ
              obtain ⟨u18, hJ⟩ := hJ
              obtain ⟨u19, hJ⟩ := hJ
              obtain ⟨u20, hJ⟩ := hJ
              obtain ⟨u21, hJ⟩ := hJ
              obtain ⟨u22, hJ⟩ := hJ
              obtain ⟨u23, hJ⟩ := hJ
              obtain ⟨u24, hJ⟩ := hJ
              obtain ⟨u25, hJ⟩ := hJ
              obtain ⟨u26, hJ⟩ := hJ
              obtain ⟨u27, hJ⟩ := hJ
              obtain ⟨u28, hJ⟩ := hJ
              obtain ⟨u29, hJ⟩ := hJ
              obtain ⟨u30, hJ⟩ := hJ
              obtain ⟨u31, hJ⟩ := hJ
              obtain ⟨u32, hJ⟩ := hJ
              obtain ⟨u33, hJ⟩ := hJ
              obtain ⟨u34, hJ⟩ := hJ
              obtain ⟨u35, hJ⟩ := hJ
              obtain ⟨u36, hJ⟩ := hJ
              obtain ⟨u37, hJ⟩ := hJ
              obtain ⟨u38, hJ⟩ := hJ
              obtain ⟨u39, hJ⟩ := hJ
              obtain ⟨u40, hJ⟩ := hJ
              obtain ⟨u41, hJ⟩ := hJ
              obtain ⟨u42, hJ⟩ := hJ
              obtain ⟨rfl, hqb, hb⟩ := hJ
              go_wp2
              simp only [Exit.jump]
              go_ret2
              rw [hqb.out.1, hqb.out.2]
              exact ⟨rfl, hb⟩
            case first =>
              intro J' hJJ hrest
              have HJ := Lib.hid hJJ
              have HREST := Lib.hid hrest
              clear hJJ hrest
              go_wp2_with fail
              refine (div64_any hi lo den hlo hden (by omega) q0 r0 HQ0 HR0 _).mono ?_
              rintro e w1 ⟨rfl, hb1⟩
              go_wp2
              go_step3
              go_step
              go_step
              exact HREST.out _ _ ⟨_, _, _, _, _, _, _, _, _, _, _, _, _, _, _, _, _, _, _, _, _, _, _, _, _, _, _, _, _, _, _, _, _, _, _, _, _, _, _, _, _, _, _, rfl, HR, hb1⟩
        · have HR := Lib.hid (HQY.out.1 (by have := HQL.out; rw [HE2.out]; omega))
          rw [HE2.out] at HR
          have HR2 : Hid (q = (q1 : Int)) := by have h1 := HR.out.1; have h2 := HQ1.out; have h3 := HQL.out; show _ = _; omega
          have z1 : decide (0 < q1) = true := by have := HQ1.out; have := HQL.out; simp; omega
          have z3 : 0 < q1 := by have := HQ1.out; have := HQL.out; omega
          clear HQY HEV HE2 hB hz
          rcases key with ⟨hB1, hB2⟩ | hB1
          · have b1 : ((r0 : Int) == (d2 : Int)) = true := by simp [hB1]
            have b2 : ((q0 : Int) % 2 == 0) = false := by rw [beq_eq_false_iff_ne]; omega
            clear hB1 hB2
            go_enter Try.func38, Try.ntmps38
            go_wp2
            refine wp_scope_back 0 (fun a' w' => ∃ (u0 u1 u2 u3 u4 u5 u6 u7 u8 u9 u10 u11 u12 u13 u14 u15 u16 u17 u18 u19 u20 u21 u22 u23 u24 u25 u26 u27 u28 u29 u30 u31 u32 u33 u34 u35 u36 u37 u38 u39 u40 u41 u42 : Value), a' = { tmps := #[u0, u1, u2, u3, u4, u5, u6, u7, u8, u9, u10, u11, u12, u13, u14, u15, u16, u17, u18, u19, u20, u21, u22, u23, u24, u25, u26, u27, u28, u29, u30, u31, u32, u33, u34, u35, u36, u37, u38, u39, u40, u41, u42], defers := [] } ∧ Hid (q = 0 ∧ b = false) ∧ Below w.heap.size w w')
              (fun _ _ => 0) rfl ?pass ?first
            case pass =>
              intro a1 w1 hJ J' hJ'
              clear hJ'
              obtain ⟨u0, hJ⟩ := hJ
              obtain ⟨u1, hJ⟩ := hJ
              obtain ⟨u2, hJ⟩ := hJ
              obtain ⟨u3, hJ⟩ := hJ
              obtain ⟨u4, hJ⟩ := hJ
              obtain ⟨u5, hJ⟩ := hJ
              obtain ⟨u6, hJ⟩ := hJ
              obtain ⟨u7, hJ⟩ := hJ
              obtain ⟨u8, hJ⟩ := hJ
              obtain ⟨u9, hJ⟩ := hJ
              obtain ⟨u10, hJ⟩ := hJ
              obtain ⟨u11, hJ⟩ := hJ
              obtain ⟨u12, hJ⟩ := hJ
              obtain ⟨u13, hJ⟩ := hJ
              obtain ⟨u14, hJ⟩ := hJ
              obtain ⟨u15, hJ⟩ := hJ
              obtain ⟨u16, hJ⟩ := hJ
              obtain ⟨u17, hJ⟩ := hJ
              obtain ⟨u18, hJ⟩ := hJ
              obtain ⟨u19, hJ⟩ := hJ
              obtain ⟨u20, hJ⟩ := hJ
              obtain ⟨u21, hJ⟩ := hJ
              obtain ⟨u22, hJ⟩ := hJ
              obtain ⟨u23, hJ⟩ := hJ
              obtain ⟨u24, hJ⟩ := hJ
              obtain ⟨u25, hJ⟩ := hJ
              obtain ⟨u26, hJ⟩ := hJ
              obtain ⟨u27, hJ⟩ := hJ
              obtain ⟨u28, hJ⟩ := hJ
              obtain ⟨u29, hJ⟩ := hJ
              obtain ⟨u30, hJ⟩ := hJ
              obtain ⟨u31, hJ⟩ := hJ
              obtain ⟨u32, hJ⟩ := hJ
              obtain ⟨u33, hJ⟩ := hJ
              obtain ⟨u34, hJ⟩ := hJ
              obtain ⟨u35, hJ⟩ := hJ
              obtain ⟨u36, hJ⟩ := hJ
              obtain ⟨u37, hJ⟩ := hJ
              obtain ⟨u38, hJ⟩ := hJ
              obtain ⟨u39, hJ⟩ := hJ
              obtain ⟨u40, hJ⟩ := hJ
              obtain ⟨u41, hJ⟩ := hJ
              obtain ⟨u42, hJ⟩ := hJ
              obtain ⟨rfl, hqb, hb⟩ := hJ
              go_wp2
              simp only [Exit.jump]
              go_ret2
              rw [hqb.out.1, hqb.out.2]
              exact ⟨rfl, hb⟩
            case first =>
              intro J' hJJ hrest
              have HJ := Lib.hid hJJ
              have HREST := Lib.hid hrest
              clear hJJ hrest
              go_wp2_with fail
              refine (div64_any hi lo den hlo hden (by omega) q0 r0 HQ0 HR0 _).mono ?_
              rintro e w1 ⟨rfl, hb1⟩
              go_wp2
              simp only [Exit.jump]
              go_ret2
              rw [HR2.out, HR.out.2]
              exact ⟨rfl, hb1⟩
          · have b1 : ((r0 : Int) == (d2 : Int)) = false := by rw [beq_eq_false_iff_ne]; omega
            clear hB1
            go_enter Try.func38, Try.ntmps38
            go_wp2
            refine wp_scope_back 0 (fun a' w' => ∃ (u0 u1 u2 u3 u4 u5 u6 u7 u8 u9 u10 u11 u12 u13 u14 u15 u16 u17 u18 u19 u20 u21 u22 u23 u24 u25 u26 u27 u28 u29 u30 u31 u32 u33 u34 u35 u36 u37 u38 u39 u40 u41 u42 : Value), a' = { tmps := #[u0, u1, u2, u3, u4, u5, u6, u7, u8, u9, u10, u11, u12, u13, u14, u15, u16, u17, u18, u19, u20, u21, u22, u23, u24, u25, u26, u27, u28, u29, u30, u31, u32, u33, u34, u35, u36, u37, u38, u39, u40, u41, u42], defers := [] } ∧ Hid (q = 0 ∧ b = false) ∧ Below w.heap.size w w')
              (fun _ _ => 0) rfl ?pass ?first
            case pass =>
              intro a1 w1 hJ J' hJ'
              clear hJ'
              obtain ⟨u0, hJ⟩ := hJ
              obtain ⟨u1, hJ⟩ := hJ
              obtain ⟨u2, hJ⟩ := hJ
              obtain ⟨u3, hJ⟩ := hJ
              obtain ⟨u4, hJ⟩ := hJ
              obtain ⟨u5, hJ⟩ := hJ
              obtain ⟨u6, hJ⟩ := hJ
              obtain ⟨u7, hJ⟩ := hJ
              obtain ⟨u8, hJ⟩ := hJ
              obtain ⟨u9, hJ⟩ := hJ
              obtain ⟨u10, hJ⟩ := hJ
              obtain ⟨u11, hJ⟩ := hJ
              obtain ⟨u12, hJ⟩ := hJ
              obtain ⟨u13, hJ⟩ := hJ
              obtain ⟨u14, hJ⟩ := hJ
              obtain ⟨u15, hJ⟩ := hJ
              obtain ⟨u16, hJ⟩ := hJ
              obtain ⟨u17, hJ⟩ := hJ
              obtain ⟨u18, hJ⟩ := hJ
              obtain ⟨u19, hJ⟩ := hJ
              obtain ⟨u20, hJ⟩ := hJ
              obtain ⟨u21, hJ⟩ := hJ
              obtain ⟨u22, hJ⟩ := hJ
              obtain ⟨u23, hJ⟩ := hJ
              obtain ⟨u24, hJ⟩ := hJ
              obtain ⟨u25, hJ⟩ := hJ
              obtain ⟨u26, hJ⟩ := hJ
              obtain ⟨u27, hJ⟩ := hJ
              obtain ⟨u28, hJ⟩ := hJ
              obtain ⟨u29, hJ⟩ := hJ
              obtain ⟨u30, hJ⟩ := hJ
              obtain ⟨u31, hJ⟩ := hJ
              obtain ⟨u32, hJ⟩ := hJ
              obtain ⟨u33, hJ⟩ := hJ
              obtain ⟨u34, hJ⟩ := hJ
              obtain ⟨u35, hJ⟩ := hJ
              obtain ⟨u36, hJ⟩ := hJ
              obtain ⟨u37, hJ⟩ := hJ
              obtain ⟨u38, hJ⟩ := hJ
              obtain ⟨u39, hJ⟩ := hJ
              obtain ⟨u40, hJ⟩ := hJ
              obtain ⟨u41, hJ⟩ := hJ
              obtain ⟨u42, hJ⟩ := hJ
              obtain ⟨rfl, hqb, hb⟩ := hJ
              go_wp2
              simp only [Exit.jump]
              go_ret2
              rw [hqb.out.1, hqb.out.2]
              exact ⟨rfl, hb⟩
            case first =>
              intro J' hJJ hrest
              have HJ := Lib.hid hJJ
              have HREST := Lib.hid hrest
              clear hJJ hrest
              go_wp2_with fail
              refine (div64_any hi lo den hlo hden (by omega) q0 r0 HQ0 HR0 _).mono ?_
              rintro e w1 ⟨rfl, hb1⟩
              go_wp2
              simp only [Exit.jump]
              go_ret2
              rw [HR2.out, HR.out.2]
              exact ⟨rfl, hb1⟩
end Go.Proofs.Ytllblmoojohffaa
