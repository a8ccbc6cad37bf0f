/- lombardref06.Right: the document's answer: which terms are right. -/
import Derived.Test.YtllblmoojohffaaTermsRight
namespace Go.Proofs.Ytllblmoojohffaa
open Go.RowKit

theorem within_any (v a b : Int) (w : World) : Calls Try.prog 63 #[.int .i64 v, .int .i64 a, .int .i64 b] w (Ret (.bool (betw v a b)) w) := by
  go_enter Try.func63, Try.ntmps63
  by_cases h1 : a ≤ v
  · by_cases h2 : v ≤ b
    · go_wp2
      go_ret
      simp [Ret, betw, h1, h2]
    · go_wp2
      go_ret
      simp [Ret, betw, h1, h2]
  · go_wp2
    go_ret
    simp [Ret, betw]
    omega
theorem within_is {v a b : Int} {r : Bool} (h : betw v a b = r) (w : World) : Calls Try.prog 63 #[.int .i64 v, .int .i64 a, .int .i64 b] w (Ret (.bool r) w) := by rw [← h]; exact within_any v a b w
theorem ratesT_take {ts : List (Int × Bool)} {k : Nat} (h : k < ts.length) {x : Int} {g : Bool} (he : ts.getD k (0, false) = (x, g)) : ratesT (ts.take (k + 1)) = (ratesT (ts.take k) && betw x 0 10000000) := by
  unfold ratesT
  rw [List.take_succ_eq_append_getElem h, List.all_append]
  have : ts[k] = (x, g) := by rw [← he]; simp [List.getD, h]
  simp [this]

set_option maxHeartbeats 1600000 in
theorem refRight_no (v : Value) (ts : List (Int × Bool)) (lim cyc dued minf minp start : Int) (hA : (betw lim 0 1000000000000000 && betw ts.length 1 8) = false) (w : World) (hv : TrS w v ts) :
    Calls Try.prog 44 #[.agg #[.int .i64 lim, v, .int .i64 cyc, .int .i64 dued, .int .i64 minf, .int .i64 minp, .int .i64 start]] w (RetB (.int .i64 6) w) := by
  have HV := Lib.hid hv
  obtain ⟨ao, cap, rfl, h1, ⟨h2, _⟩, h3⟩ := hv
  clear h3
  unfold maxLen at h2
  have hT := TB.new w 34 lim (.slice ao ts.length cap) cyc dued minf minp start
  have hb0 : Below w.heap.size w (w.alloc (.cells #[.int .i64 lim, .slice ao ts.length cap, .int .i64 cyc, .int .i64 dued, .int .i64 minf, .int .i64 minp, .int .i64 start] 34)) := (Below.refl _ _).alloc (Nat.le_refl _) _
  have key : betw lim 0 1000000000000000 = false ∨ (betw lim 0 1000000000000000 = true ∧ decide (1 ≤ (ts.length : Int)) = false) ∨ (betw lim 0 1000000000000000 = true ∧ decide (1 ≤ (ts.length : Int)) = true ∧ decide ((ts.length : Int) ≤ 8) = false) := by
    cases h : betw lim 0 1000000000000000 with
    | false => exact .inl rfl
    | true =>
      rw [h, Bool.true_and, betw_no] at hA
      simp only [true_and, decide_eq_false_iff_not, decide_eq_true_eq]
      omega
  clear hA
  have HT := Lib.hid hT
  clear hT
  rcases key with d0 | ⟨d0, d1⟩ | ⟨d0, d1, d2⟩
  all_goals
    have D0 := Lib.hid d0
    clear d0
    go_enter Try.func44, Try.ntmps44
    go_wp2_with fail
    refine (within_is D0.out _).mono ?_
    rintro e w1 ⟨rfl, rfl⟩
    go_wp2_with fail
    go_loopg [3, 4] ts.length (fun g ok i wr => ∃ k : Nat, k + g = ts.length ∧ i = .int .i64 k ∧ ok = .bool false ∧ wr = (w.alloc (.cells #[.int .i64 lim, .slice ao ts.length cap, .int .i64 cyc, .int .i64 dued, .int .i64 minf, .int .i64 minp, .int .i64 start] 34)))
    case atStart => exact ⟨0, by omega, rfl, rfl, rfl⟩
    case round =>
      obtain ⟨k, hkg, rfl, rfl, rfl⟩ := hrel
      obtain ⟨t0, t1, t2, t3, t4, t5, t6⟩ := HT.out
      cases gk with
      | zero =>
        have hlt : ¬ ((k : Int) < (ts.length : Int)) := by omega
        go_wp2
        go_ret
        exact ⟨rfl, hb0⟩
      | succ g =>
        have hlt : (k : Int) < (ts.length : Int) := by omega
        go_wp2
        go_roundg g
        case measure => omega
        case rel => exact ⟨k + 1, by omega, by go_num, rfl, rfl⟩

set_option maxHeartbeats 1600000 in
theorem refRight_yes (v : Value) (ts : List (Int × Bool)) (lim cyc dued minf minp start : Int) (hA : (betw lim 0 1000000000000000 && betw ts.length 1 8) = true) (r : Int) (hr : Hid ((if (ratesT ts && (betw cyc 1 28 && betw dued 1 25) && betw minf 0 1000000000000000 && betw minp 0 1000 && betw start (-135140) 2922896) = true then 0 else 6) = r)) (w : World) (hv : TrS w v ts) :
    Calls Try.prog 44 #[.agg #[.int .i64 lim, v, .int .i64 cyc, .int .i64 dued, .int .i64 minf, .int .i64 minp, .int .i64 start]] w (RetB (.int .i64 r) w) := by
  have HV := Lib.hid hv
  obtain ⟨ao, cap, rfl, h1, ⟨h2, _⟩, h3⟩ := hv
  clear h3
  unfold maxLen at h2
  have hT := TB.new w 34 lim (.slice ao ts.length cap) cyc dued minf minp start
  have hb0 : Below w.heap.size w (w.alloc (.cells #[.int .i64 lim, .slice ao ts.length cap, .int .i64 cyc, .int .i64 dued, .int .i64 minf, .int .i64 minp, .int .i64 start] 34)) := (Below.refl _ _).alloc (Nat.le_refl _) _
  rw [Bool.and_eq_true] at hA
  obtain ⟨hA, hB⟩ := hA
  rw [betw_iff] at hB
  have D0 := Lib.hid hA
  have d1 : decide (1 ≤ (ts.length : Int)) = true := by simp; omega
  have d2 : decide ((ts.length : Int) ≤ 8) = true := by simp; omega
  clear hA hB
  have HT := Lib.hid hT
  clear hT
  go_enter Try.func44, Try.ntmps44
  go_wp2_with fail
  refine (within_is D0.out _).mono ?_
  rintro e w1 ⟨rfl, rfl⟩
  go_wp2_with fail
  go_loopg [3, 4] ts.length (fun g ok i wr => ∃ k : Nat, k + g = ts.length ∧ i = .int .i64 k ∧ ok = .bool (ratesT (ts.take k)) ∧ wr = (w.alloc (.cells #[.int .i64 lim, .slice ao ts.length cap, .int .i64 cyc, .int .i64 dued, .int .i64 minf, .int .i64 minp, .int .i64 start] 34)))
  case atStart => exact ⟨0, by omega, rfl, rfl, rfl⟩
  case round =>
    obtain ⟨k, hkg, rfl, rfl, rfl⟩ := hrel
    obtain ⟨t0, t1, t2, t3, t4, t5, t6⟩ := HT.out
    cases gk with
    | zero =>
      have hlt : ¬ ((k : Int) < (ts.length : Int)) := by omega
      obtain rfl : k = ts.length := by omega
      rw [List.take_length]
      cases hC : ratesT ts with
      | false =>
        rw [hC] at hr
        clear hC
        go_wp2
        go_ret
        rw [← hr.out]
        exact ⟨rfl, hb0⟩
      | true =>
        rw [hC] at hr
        clear hC
        cases hcyc : betw cyc 1 28 with
        | false =>
          rw [hcyc] at hr
          have Hcyc := Lib.hid hcyc
          clear hcyc
          go_wp2_with fail
          refine (within_is Hcyc.out _).mono ?_
          rintro e w1 ⟨rfl, rfl⟩
          go_wp2
          go_ret
          rw [← hr.out]
          exact ⟨rfl, hb0⟩
        | true =>
          cases hdued : betw dued 1 25 with
          | false =>
            rw [hcyc, hdued] at hr
            have Hcyc := Lib.hid hcyc
            have Hdued := Lib.hid hdued
            clear hcyc hdued
            go_wp2_with fail
            refine (within_is Hcyc.out _).mono ?_
            rintro e w1 ⟨rfl, rfl⟩
            go_wp2_with fail
            refine (within_is Hdued.out _).mono ?_
            rintro e w1 ⟨rfl, rfl⟩
            go_wp2
            go_ret
            rw [← hr.out]
            exact ⟨rfl, hb0⟩
          | true =>
            cases hminf : betw minf 0 1000000000000000 with
            | false =>
              rw [hcyc, hdued, hminf] at hr
              have Hcyc := Lib.hid hcyc
              have Hdued := Lib.hid hdued
              have Hminf := Lib.hid hminf
              clear hcyc hdued hminf
              go_wp2_with fail
              refine (within_is Hcyc.out _).mono ?_
              rintro e w1 ⟨rfl, rfl⟩
              go_wp2_with fail
              refine (within_is Hdued.out _).mono ?_
              rintro e w1 ⟨rfl, rfl⟩
              go_wp2_with fail
              refine (within_is Hminf.out _).mono ?_
              rintro e w1 ⟨rfl, rfl⟩
              go_wp2
              go_ret
              rw [← hr.out]
              exact ⟨rfl, hb0⟩
            | true =>
              cases hminp : betw minp 0 1000 with
              | false =>
                rw [hcyc, hdued, hminf, hminp] at hr
                have Hcyc := Lib.hid hcyc
                have Hdued := Lib.hid hdued
                have Hminf := Lib.hid hminf
                have Hminp := Lib.hid hminp
                clear hcyc hdued hminf hminp
                go_wp2_with fail
                refine (within_is Hcyc.out _).mono ?_
                rintro e w1 ⟨rfl, rfl⟩
                go_wp2_with fail
                refine (within_is Hdued.out _).mono ?_
                rintro e w1 ⟨rfl, rfl⟩
                go_wp2_with fail
                refine (within_is Hminf.out _).mono ?_
                rintro e w1 ⟨rfl, rfl⟩
                go_wp2_with fail
                refine (within_is Hminp.out _).mono ?_
                rintro e w1 ⟨rfl, rfl⟩
                go_wp2
                go_ret
                rw [← hr.out]
                exact ⟨rfl, hb0⟩
              | true =>
                cases hstart : betw start (-135140) 2922896 with
                | false =>
                  rw [hcyc, hdued, hminf, hminp, hstart] at hr
                  have Hcyc := Lib.hid hcyc
                  have Hdued := Lib.hid hdued
                  have Hminf := Lib.hid hminf
                  have Hminp := Lib.hid hminp
                  have Hstart := Lib.hid hstart
                  clear hcyc hdued hminf hminp hstart
                  go_wp2_with fail
                  refine (within_is Hcyc.out _).mono ?_
                  rintro e w1 ⟨rfl, rfl⟩
                  go_wp2_with fail
                  refine (within_is Hdued.out _).mono ?_
                  rintro e w1 ⟨rfl, rfl⟩
                  go_wp2_with fail
                  refine (within_is Hminf.out _).mono ?_
                  rintro e w1 ⟨rfl, rfl⟩
                  go_wp2_with fail
                  refine (within_is Hminp.out _).mono ?_
                  rintro e w1 ⟨rfl, rfl⟩
                  go_wp2_with fail
                  refine (within_is Hstart.out _).mono ?_
                  rintro e w1 ⟨rfl, rfl⟩
                  go_wp2
                  go_ret
                  rw [← hr.out]
                  exact ⟨rfl, hb0⟩
                | true =>
                  rw [hcyc, hdued, hminf, hminp, hstart] at hr
                  have Hcyc := Lib.hid hcyc
                  have Hdued := Lib.hid hdued
                  have Hminf := Lib.hid hminf
                  have Hminp := Lib.hid hminp
                  have Hstart := Lib.hid hstart
                  clear hcyc hdued hminf hminp hstart
                  go_wp2_with fail
                  refine (within_is Hcyc.out _).mono ?_
                  rintro e w1 ⟨rfl, rfl⟩
                  go_wp2_with fail
                  refine (within_is Hdued.out _).mono ?_
                  rintro e w1 ⟨rfl, rfl⟩
                  go_wp2_with fail
                  refine (within_is Hminf.out _).mono ?_
                  rintro e w1 ⟨rfl, rfl⟩
                  go_wp2_with fail
                  refine (within_is Hminp.out _).mono ?_
                  rintro e w1 ⟨rfl, rfl⟩
                  go_wp2_with fail
                  refine (within_is Hstart.out _).mono ?_
                  rintro e w1 ⟨rfl, rfl⟩
                  go_wp2
                  go_ret
                  rw [← hr.out]
                  exact ⟨rfl, hb0⟩
    | succ g =>
      have hlt : (k : Int) < (ts.length : Int) := by omega
      obtain ⟨b, o, x, gr, rfl, hc1, hc2, HX⟩ := (HV.out.below hb0).get (i := k) (by omega)
      have HS := Lib.hid (ratesT_take (by omega) HX.out)
      cases hR : ratesT (ts.take k) with
      | false =>
        rw [hR] at HS
        clear hR
        go_wp2
        go_roundg g
        case measure => omega
        case rel => exact ⟨k + 1, by omega, by go_num, by rw [HS.out]; rfl, rfl⟩
      | true =>
        rw [hR] at HS
        clear hR
        cases hx : betw x 0 10000000 with
        | false =>
          rw [hx] at HS
          have HX2 := Lib.hid hx
          clear hx
          go_wp2_with fail
          refine (within_is HX2.out _).mono ?_
          rintro e w1 ⟨rfl, rfl⟩
          go_wp2
          go_roundg g
          case measure => omega
          case rel => exact ⟨k + 1, by omega, by go_num, by rw [HS.out]; rfl, rfl⟩
        | true =>
          rw [hx] at HS
          have HX2 := Lib.hid hx
          clear hx
          go_wp2_with fail
          refine (within_is HX2.out _).mono ?_
          rintro e w1 ⟨rfl, rfl⟩
          go_wp2
          go_roundg g
          case measure => omega
          case rel => exact ⟨k + 1, by omega, by go_num, by rw [HS.out]; rfl, rfl⟩

theorem refRight_any (v : Value) (ts : List (Int × Bool)) (lim cyc dued minf minp start : Int) (r : Int) (hr : Hid ((if rightT lim ts cyc dued minf minp start = true then 0 else 6) = r)) (w : World) (hv : TrS w v ts) :
    Calls Try.prog 44 #[.agg #[.int .i64 lim, v, .int .i64 cyc, .int .i64 dued, .int .i64 minf, .int .i64 minp, .int .i64 start]] w (RetB (.int .i64 r) w) := by
  cases hA : (betw lim 0 1000000000000000 && betw ts.length 1 8) with
  | false =>
    have e : r = 6 := by
      rw [← hr.out]
      simp [rightT, hA]
    rw [e]
    exact refRight_no v ts lim cyc dued minf minp start hA w hv
  | true =>
    refine refRight_yes v ts lim cyc dued minf minp start hA r ?_ w hv
    have := hr.out
    simp only [rightT, hA, Bool.true_and] at this
    exact this
end Go.Proofs.Ytllblmoojohffaa
