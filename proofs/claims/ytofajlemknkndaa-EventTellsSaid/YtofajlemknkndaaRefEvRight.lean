/- lombardref07.Right: the document's answer: which events are right. -/
import Derived.Test.YtofajlemknkndaaEvRight
import Derived.Test.YtofajlemknkndaaRefRight
namespace Go.Proofs.Ytofajlemknkndaa
open Go.RowKit

set_option maxRecDepth 100000 in
set_option maxHeartbeats 800000 in
theorem refEvRight_terms (v : Value) (ts : List (Int × Bool)) (lim cyc dued minf minp start kind day tr am ref r : Int) (ht : Hid (rightT lim ts cyc dued minf minp start = false)) (HR : Hid (6 = r)) (w : World) (hv : TrS w v ts) :
    Calls Try.prog 29 #[.agg #[.int .i64 lim, v, .int .i64 cyc, .int .i64 dued, .int .i64 minf, .int .i64 minp, .int .i64 start], .agg #[.int .i64 kind, .int .i64 day, .int .i64 tr, .int .i64 am, .int .i64 ref]] w (RetB (.int .i64 r) w) := by
  have HV := Lib.hid hv
  obtain ⟨ao, cap, rfl, h1, ⟨h2, _⟩, h3⟩ := hv
  clear h3
  unfold maxLen at h2
  have hb0 : Below w.heap.size w ((w.alloc (.cells #[.int .i64 lim, .slice ao ts.length cap, .int .i64 cyc, .int .i64 dued, .int .i64 minf, .int .i64 minp, .int .i64 start] 26)).alloc (.cells #[.int .i64 kind, .int .i64 day, .int .i64 tr, .int .i64 am, .int .i64 ref] 49)) := ((Below.refl _ _).alloc (Nat.le_refl _) _).alloc (by simp) _
  go_enter Try.func29, Try.ntmps29
  go_wp2_with fail
  refine (refRight_any _ ts lim cyc dued minf minp start 6 (Lib.hid (by rw [ht.out]; rfl)) _ (HV.out.below hb0)).mono ?_
  rintro e w1 ⟨rfl, hb1⟩
  have hb : Below w.heap.size w w1 := bl_tr hb0 hb1
  go_wp2
  go_ret
  rw [← HR.out]
  exact ⟨rfl, hb⟩

set_option maxRecDepth 100000 in
set_option maxHeartbeats 1600000 in
theorem refEvRight_pay (v : Value) (ts : List (Int × Bool)) (lim cyc dued minf minp start kind day tr am ref r : Int) (hr : Hid (rightE lim ts cyc dued minf minp start kind day tr am ref = r)) (ht : Hid (rightT lim ts cyc dued minf minp start = true)) (e2 : (kind == 2) = true) (e2' : (kind != 2) = false) (e6 : (kind == 6) = false) (_e6' : (kind != 6) = true) (HF : Hid (refd kind = false)) (e4 : (kind == 4) = false) (e5 : (kind == 5) = false) (w : World) (hv : TrS w v ts) :
    Calls Try.prog 29 #[.agg #[.int .i64 lim, v, .int .i64 cyc, .int .i64 dued, .int .i64 minf, .int .i64 minp, .int .i64 start], .agg #[.int .i64 kind, .int .i64 day, .int .i64 tr, .int .i64 am, .int .i64 ref]] w (RetB (.int .i64 r) w) := by
  have HV := Lib.hid hv
  obtain ⟨ao, cap, rfl, h1, ⟨h2, _⟩, h3⟩ := hv
  clear h3
  unfold maxLen at h2
  have hb0 : Below w.heap.size w ((w.alloc (.cells #[.int .i64 lim, .slice ao ts.length cap, .int .i64 cyc, .int .i64 dued, .int .i64 minf, .int .i64 minp, .int .i64 start] 26)).alloc (.cells #[.int .i64 kind, .int .i64 day, .int .i64 tr, .int .i64 am, .int .i64 ref] 49)) := ((Below.refl _ _).alloc (Nat.le_refl _) _).alloc (by simp) _
  go_enter Try.func29, Try.ntmps29
  go_wp2_with fail
  refine (refRight_any _ ts lim cyc dued minf minp start 0 (Lib.hid (by rw [ht.out]; rfl)) _ (HV.out.below hb0)).mono ?_
  rintro e w1 ⟨rfl, hb1⟩
  have hb : Below w.heap.size w w1 := bl_tr hb0 hb1
  obtain ⟨hc, hf⟩ := bcell hb1
  clear hb0 hb1
  rw [rightE, ht.out, HF.out, e2, e6] at hr
  go_upto_region 3 with fail
  cases d1 : decide (kind < 1) with
  | true =>
    simp [d1] at hr
    have HR := hr
    clear hr
    go_wp2
    go_ret
    rw [← HR.out]
    exact ⟨rfl, hb⟩
  | false =>
    cases d2 : decide (6 < kind) with
    | true =>
      simp [d1, d2] at hr
      have HR := hr
      clear hr
      go_wp2
      go_ret
      rw [← HR.out]
      exact ⟨rfl, hb⟩
    | false =>
      go_upto_region 5 with fail
      cases d3 : tr != 0 with
      | true =>
        simp [d1, d2, d3] at hr
        have HR := hr
        clear hr
        go_wp2
        go_ret
        rw [← HR.out]
        exact ⟨rfl, hb⟩
      | false =>
        go_upto_region 10 with fail
        cases d4 : decide (am < 1) with
        | true =>
          simp [d1, d2, d3, d4] at hr
          have HR := hr
          clear hr
          go_wp2
          go_ret
          rw [← HR.out]
          exact ⟨rfl, hb⟩
        | false =>
          cases d5 : decide (1000000000000000 < am) with
          | true =>
            simp [d1, d2, d3, d4, d5] at hr
            have HR := hr
            clear hr
            go_wp2
            go_ret
            rw [← HR.out]
            exact ⟨rfl, hb⟩
          | false =>
            go_upto_region 12 with fail
            cases d6 : decide (day < start) with
            | true =>
              simp [d1, d2, d3, d4, d5, d6] at hr
              have HR := hr
              clear hr
              go_wp2
              go_ret
              rw [← HR.out]
              exact ⟨rfl, hb⟩
            | false =>
              cases d7 : decide (2932896 < day) with
              | true =>
                simp [d1, d2, d3, d4, d5, d6, d7] at hr
                have HR := hr
                clear hr
                go_wp2
                go_ret
                rw [← HR.out]
                exact ⟨rfl, hb⟩
              | false =>
                go_upto_region 15 with fail
                cases d8 : ref != 0 with
                | true =>
                  simp [d1, d2, d3, d4, d5, d6, d7, d8] at hr
                  have HR := hr
                  clear hr
                  go_wp2
                  go_ret
                  rw [← HR.out]
                  exact ⟨rfl, hb⟩
                | false =>
                  simp [d1, d2, d3, d4, d5, d6, d7, d8] at hr
                  have HR := hr
                  clear hr
                  go_wp2
                  go_ret
                  rw [← HR.out]
                  exact ⟨rfl, hb⟩

set_option maxRecDepth 100000 in
set_option maxHeartbeats 1600000 in
theorem refEvRight_rate (v : Value) (ts : List (Int × Bool)) (lim cyc dued minf minp start kind day tr am ref r : Int) (hr : Hid (rightE lim ts cyc dued minf minp start kind day tr am ref = r)) (ht : Hid (rightT lim ts cyc dued minf minp start = true)) (e2 : (kind == 2) = false) (e2' : (kind != 2) = true) (e6 : (kind == 6) = true) (_e6' : (kind != 6) = false) (HF : Hid (refd kind = false)) (e4 : (kind == 4) = false) (e5 : (kind == 5) = false) (w : World) (hv : TrS w v ts) :
    Calls Try.prog 29 #[.agg #[.int .i64 lim, v, .int .i64 cyc, .int .i64 dued, .int .i64 minf, .int .i64 minp, .int .i64 start], .agg #[.int .i64 kind, .int .i64 day, .int .i64 tr, .int .i64 am, .int .i64 ref]] w (RetB (.int .i64 r) w) := by
  have HV := Lib.hid hv
  obtain ⟨ao, cap, rfl, h1, ⟨h2, _⟩, h3⟩ := hv
  clear h3
  unfold maxLen at h2
  have hb0 : Below w.heap.size w ((w.alloc (.cells #[.int .i64 lim, .slice ao ts.length cap, .int .i64 cyc, .int .i64 dued, .int .i64 minf, .int .i64 minp, .int .i64 start] 26)).alloc (.cells #[.int .i64 kind, .int .i64 day, .int .i64 tr, .int .i64 am, .int .i64 ref] 49)) := ((Below.refl _ _).alloc (Nat.le_refl _) _).alloc (by simp) _
  go_enter Try.func29, Try.ntmps29
  go_wp2_with fail
  refine (refRight_any _ ts lim cyc dued minf minp start 0 (Lib.hid (by rw [ht.out]; rfl)) _ (HV.out.below hb0)).mono ?_
  rintro e w1 ⟨rfl, hb1⟩
  have hb : Below w.heap.size w w1 := bl_tr hb0 hb1
  obtain ⟨hc, hf⟩ := bcell hb1
  clear hb0 hb1
  rw [rightE, ht.out, HF.out, e2, e6] at hr
  go_upto_region 3 with fail
  cases d1 : decide (kind < 1) with
  | true =>
    simp [d1] at hr
    have HR := hr
    clear hr
    go_wp2
    go_ret
    rw [← HR.out]
    exact ⟨rfl, hb⟩
  | false =>
    cases d2 : decide (6 < kind) with
    | true =>
      simp [d1, d2] at hr
      have HR := hr
      clear hr
      go_wp2
      go_ret
      rw [← HR.out]
      exact ⟨rfl, hb⟩
    | false =>
      go_upto_region 5 with fail
      cases d3 : decide (tr < 1) with
      | true =>
        simp [d1, d2, d3] at hr
        have HR := hr
        clear hr
        go_wp2
        go_ret
        rw [← HR.out]
        exact ⟨rfl, hb⟩
      | false =>
        cases d4 : decide ((ts.length : Int) < tr) with
        | true =>
          simp [d1, d2, d3, d4] at hr
          have HR := hr
          clear hr
          go_wp2
          go_ret
          rw [← HR.out]
          exact ⟨rfl, hb⟩
        | false =>
          go_upto_region 10 with fail
          cases d5 : decide (am < 0) with
          | true =>
            simp [d1, d2, d3, d4, d5] at hr
            have HR := hr
            clear hr
            go_wp2
            go_ret
            rw [← HR.out]
            exact ⟨rfl, hb⟩
          | false =>
            cases d6 : decide (10000000 < am) with
            | true =>
              simp [d1, d2, d3, d4, d5, d6] at hr
              have HR := hr
              clear hr
              go_wp2
              go_ret
              rw [← HR.out]
              exact ⟨rfl, hb⟩
            | false =>
              go_upto_region 12 with fail
              cases d7 : decide (day < start) with
              | true =>
                simp [d1, d2, d3, d4, d5, d6, d7] at hr
                have HR := hr
                clear hr
                go_wp2
                go_ret
                rw [← HR.out]
                exact ⟨rfl, hb⟩
              | false =>
                cases d8 : decide (2932896 < day) with
                | true =>
                  simp [d1, d2, d3, d4, d5, d6, d7, d8] at hr
                  have HR := hr
                  clear hr
                  go_wp2
                  go_ret
                  rw [← HR.out]
                  exact ⟨rfl, hb⟩
                | false =>
                  go_upto_region 15 with fail
                  cases d9 : ref != 0 with
                  | true =>
                    simp [d1, d2, d3, d4, d5, d6, d7, d8, d9] at hr
                    have HR := hr
                    clear hr
                    go_wp2
                    go_ret
                    rw [← HR.out]
                    exact ⟨rfl, hb⟩
                  | false =>
                    simp [d1, d2, d3, d4, d5, d6, d7, d8, d9] at hr
                    have HR := hr
                    clear hr
                    go_wp2
                    go_ret
                    rw [← HR.out]
                    exact ⟨rfl, hb⟩

set_option maxRecDepth 100000 in
set_option maxHeartbeats 1600000 in
theorem refEvRight_disp4 (v : Value) (ts : List (Int × Bool)) (lim cyc dued minf minp start kind day tr am ref r : Int) (hr : Hid (rightE lim ts cyc dued minf minp start kind day tr am ref = r)) (ht : Hid (rightT lim ts cyc dued minf minp start = true)) (e2 : (kind == 2) = false) (e2' : (kind != 2) = true) (e6 : (kind == 6) = false) (_e6' : (kind != 6) = true) (HF : Hid (refd kind = true)) (e4 : (kind == 4) = true) (_e5 : (kind == 5) = false) (w : World) (hv : TrS w v ts) :
    Calls Try.prog 29 #[.agg #[.int .i64 lim, v, .int .i64 cyc, .int .i64 dued, .int .i64 minf, .int .i64 minp, .int .i64 start], .agg #[.int .i64 kind, .int .i64 day, .int .i64 tr, .int .i64 am, .int .i64 ref]] w (RetB (.int .i64 r) w) := by
  have HV := Lib.hid hv
  obtain ⟨ao, cap, rfl, h1, ⟨h2, _⟩, h3⟩ := hv
  clear h3
  unfold maxLen at h2
  have hb0 : Below w.heap.size w ((w.alloc (.cells #[.int .i64 lim, .slice ao ts.length cap, .int .i64 cyc, .int .i64 dued, .int .i64 minf, .int .i64 minp, .int .i64 start] 26)).alloc (.cells #[.int .i64 kind, .int .i64 day, .int .i64 tr, .int .i64 am, .int .i64 ref] 49)) := ((Below.refl _ _).alloc (Nat.le_refl _) _).alloc (by simp) _
  go_enter Try.func29, Try.ntmps29
  go_wp2_with fail
  refine (refRight_any _ ts lim cyc dued minf minp start 0 (Lib.hid (by rw [ht.out]; rfl)) _ (HV.out.below hb0)).mono ?_
  rintro e w1 ⟨rfl, hb1⟩
  have hb : Below w.heap.size w w1 := bl_tr hb0 hb1
  obtain ⟨hc, hf⟩ := bcell hb1
  clear hb0 hb1
  rw [rightE, ht.out, HF.out, e2, e6] at hr
  go_upto_region 3 with fail
  cases d1 : decide (kind < 1) with
  | true =>
    simp [d1] at hr
    have HR := hr
    clear hr
    go_wp2
    go_ret
    rw [← HR.out]
    exact ⟨rfl, hb⟩
  | false =>
    cases d2 : decide (6 < kind) with
    | true =>
      simp [d1, d2] at hr
      have HR := hr
      clear hr
      go_wp2
      go_ret
      rw [← HR.out]
      exact ⟨rfl, hb⟩
    | false =>
      go_upto_region 5 with fail
      cases d3 : decide (tr < 1) with
      | true =>
        simp [d1, d2, d3] at hr
        have HR := hr
        clear hr
        go_wp2
        go_ret
        rw [← HR.out]
        exact ⟨rfl, hb⟩
      | false =>
        cases d4 : decide ((ts.length : Int) < tr) with
        | true =>
          simp [d1, d2, d3, d4] at hr
          have HR := hr
          clear hr
          go_wp2
          go_ret
          rw [← HR.out]
          exact ⟨rfl, hb⟩
        | false =>
          go_upto_region 10 with fail
          cases d5 : decide (am < 1) with
          | true =>
            simp [d1, d2, d3, d4, d5] at hr
            have HR := hr
            clear hr
            go_wp2
            go_ret
            rw [← HR.out]
            exact ⟨rfl, hb⟩
          | false =>
            cases d6 : decide (1000000000000000 < am) with
            | true =>
              simp [d1, d2, d3, d4, d5, d6] at hr
              have HR := hr
              clear hr
              go_wp2
              go_ret
              rw [← HR.out]
              exact ⟨rfl, hb⟩
            | false =>
              go_upto_region 12 with fail
              cases d7 : decide (day < start) with
              | true =>
                simp [d1, d2, d3, d4, d5, d6, d7] at hr
                have HR := hr
                clear hr
                go_wp2
                go_ret
                rw [← HR.out]
                exact ⟨rfl, hb⟩
              | false =>
                cases d8 : decide (2932896 < day) with
                | true =>
                  simp [d1, d2, d3, d4, d5, d6, d7, d8] at hr
                  have HR := hr
                  clear hr
                  go_wp2
                  go_ret
                  rw [← HR.out]
                  exact ⟨rfl, hb⟩
                | false =>
                  go_upto_region 15 with fail
                  cases d9 : decide (ref < 1) with
                  | true =>
                    simp [d1, d2, d3, d4, d5, d6, d7, d8, d9] at hr
                    have HR := hr
                    clear hr
                    go_wp2
                    go_ret
                    rw [← HR.out]
                    exact ⟨rfl, hb⟩
                  | false =>
                    cases d10 : decide (2000 < ref) with
                    | true =>
                      simp [d1, d2, d3, d4, d5, d6, d7, d8, d9, d10] at hr
                      have HR := hr
                      clear hr
                      go_wp2
                      go_ret
                      rw [← HR.out]
                      exact ⟨rfl, hb⟩
                    | false =>
                      simp [d1, d2, d3, d4, d5, d6, d7, d8, d9, d10] at hr
                      have HR := hr
                      clear hr
                      go_wp2
                      go_ret
                      rw [← HR.out]
                      exact ⟨rfl, hb⟩

set_option maxRecDepth 100000 in
set_option maxHeartbeats 1600000 in
theorem refEvRight_disp5 (v : Value) (ts : List (Int × Bool)) (lim cyc dued minf minp start kind day tr am ref r : Int) (hr : Hid (rightE lim ts cyc dued minf minp start kind day tr am ref = r)) (ht : Hid (rightT lim ts cyc dued minf minp start = true)) (e2 : (kind == 2) = false) (e2' : (kind != 2) = true) (e6 : (kind == 6) = false) (_e6' : (kind != 6) = true) (HF : Hid (refd kind = true)) (e4 : (kind == 4) = false) (e5 : (kind == 5) = true) (w : World) (hv : TrS w v ts) :
    Calls Try.prog 29 #[.agg #[.int .i64 lim, v, .int .i64 cyc, .int .i64 dued, .int .i64 minf, .int .i64 minp, .int .i64 start], .agg #[.int .i64 kind, .int .i64 day, .int .i64 tr, .int .i64 am, .int .i64 ref]] w (RetB (.int .i64 r) w) := by
  have HV := Lib.hid hv
  obtain ⟨ao, cap, rfl, h1, ⟨h2, _⟩, h3⟩ := hv
  clear h3
  unfold maxLen at h2
  have hb0 : Below w.heap.size w ((w.alloc (.cells #[.int .i64 lim, .slice ao ts.length cap, .int .i64 cyc, .int .i64 dued, .int .i64 minf, .int .i64 minp, .int .i64 start] 26)).alloc (.cells #[.int .i64 kind, .int .i64 day, .int .i64 tr, .int .i64 am, .int .i64 ref] 49)) := ((Below.refl _ _).alloc (Nat.le_refl _) _).alloc (by simp) _
  go_enter Try.func29, Try.ntmps29
  go_wp2_with fail
  refine (refRight_any _ ts lim cyc dued minf minp start 0 (Lib.hid (by rw [ht.out]; rfl)) _ (HV.out.below hb0)).mono ?_
  rintro e w1 ⟨rfl, hb1⟩
  have hb : Below w.heap.size w w1 := bl_tr hb0 hb1
  obtain ⟨hc, hf⟩ := bcell hb1
  clear hb0 hb1
  rw [rightE, ht.out, HF.out, e2, e6] at hr
  go_upto_region 3 with fail
  cases d1 : decide (kind < 1) with
  | true =>
    simp [d1] at hr
    have HR := hr
    clear hr
    go_wp2
    go_ret
    rw [← HR.out]
    exact ⟨rfl, hb⟩
  | false =>
    cases d2 : decide (6 < kind) with
    | true =>
      simp [d1, d2] at hr
      have HR := hr
      clear hr
      go_wp2
      go_ret
      rw [← HR.out]
      exact ⟨rfl, hb⟩
    | false =>
      go_upto_region 5 with fail
      cases d3 : decide (tr < 1) with
      | true =>
        simp [d1, d2, d3] at hr
        have HR := hr
        clear hr
        go_wp2
        go_ret
        rw [← HR.out]
        exact ⟨rfl, hb⟩
      | false =>
        cases d4 : decide ((ts.length : Int) < tr) with
        | true =>
          simp [d1, d2, d3, d4] at hr
          have HR := hr
          clear hr
          go_wp2
          go_ret
          rw [← HR.out]
          exact ⟨rfl, hb⟩
        | false =>
          go_upto_region 10 with fail
          cases d5 : decide (am < 1) with
          | true =>
            simp [d1, d2, d3, d4, d5] at hr
            have HR := hr
            clear hr
            go_wp2
            go_ret
            rw [← HR.out]
            exact ⟨rfl, hb⟩
          | false =>
            cases d6 : decide (1000000000000000 < am) with
            | true =>
              simp [d1, d2, d3, d4, d5, d6] at hr
              have HR := hr
              clear hr
              go_wp2
              go_ret
              rw [← HR.out]
              exact ⟨rfl, hb⟩
            | false =>
              go_upto_region 12 with fail
              cases d7 : decide (day < start) with
              | true =>
                simp [d1, d2, d3, d4, d5, d6, d7] at hr
                have HR := hr
                clear hr
                go_wp2
                go_ret
                rw [← HR.out]
                exact ⟨rfl, hb⟩
              | false =>
                cases d8 : decide (2932896 < day) with
                | true =>
                  simp [d1, d2, d3, d4, d5, d6, d7, d8] at hr
                  have HR := hr
                  clear hr
                  go_wp2
                  go_ret
                  rw [← HR.out]
                  exact ⟨rfl, hb⟩
                | false =>
                  go_upto_region 15 with fail
                  cases d9 : decide (ref < 1) with
                  | true =>
                    simp [d1, d2, d3, d4, d5, d6, d7, d8, d9] at hr
                    have HR := hr
                    clear hr
                    go_wp2
                    go_ret
                    rw [← HR.out]
                    exact ⟨rfl, hb⟩
                  | false =>
                    cases d10 : decide (2000 < ref) with
                    | true =>
                      simp [d1, d2, d3, d4, d5, d6, d7, d8, d9, d10] at hr
                      have HR := hr
                      clear hr
                      go_wp2
                      go_ret
                      rw [← HR.out]
                      exact ⟨rfl, hb⟩
                    | false =>
                      simp [d1, d2, d3, d4, d5, d6, d7, d8, d9, d10] at hr
                      have HR := hr
                      clear hr
                      go_wp2
                      go_ret
                      rw [← HR.out]
                      exact ⟨rfl, hb⟩

set_option maxRecDepth 100000 in
set_option maxHeartbeats 1600000 in
theorem refEvRight_other (v : Value) (ts : List (Int × Bool)) (lim cyc dued minf minp start kind day tr am ref r : Int) (hr : Hid (rightE lim ts cyc dued minf minp start kind day tr am ref = r)) (ht : Hid (rightT lim ts cyc dued minf minp start = true)) (e2 : (kind == 2) = false) (e2' : (kind != 2) = true) (e6 : (kind == 6) = false) (_e6' : (kind != 6) = true) (HF : Hid (refd kind = false)) (e4 : (kind == 4) = false) (e5 : (kind == 5) = false) (w : World) (hv : TrS w v ts) :
    Calls Try.prog 29 #[.agg #[.int .i64 lim, v, .int .i64 cyc, .int .i64 dued, .int .i64 minf, .int .i64 minp, .int .i64 start], .agg #[.int .i64 kind, .int .i64 day, .int .i64 tr, .int .i64 am, .int .i64 ref]] w (RetB (.int .i64 r) w) := by
  have HV := Lib.hid hv
  obtain ⟨ao, cap, rfl, h1, ⟨h2, _⟩, h3⟩ := hv
  clear h3
  unfold maxLen at h2
  have hb0 : Below w.heap.size w ((w.alloc (.cells #[.int .i64 lim, .slice ao ts.length cap, .int .i64 cyc, .int .i64 dued, .int .i64 minf, .int .i64 minp, .int .i64 start] 26)).alloc (.cells #[.int .i64 kind, .int .i64 day, .int .i64 tr, .int .i64 am, .int .i64 ref] 49)) := ((Below.refl _ _).alloc (Nat.le_refl _) _).alloc (by simp) _
  go_enter Try.func29, Try.ntmps29
  go_wp2_with fail
  refine (refRight_any _ ts lim cyc dued minf minp start 0 (Lib.hid (by rw [ht.out]; rfl)) _ (HV.out.below hb0)).mono ?_
  rintro e w1 ⟨rfl, hb1⟩
  have hb : Below w.heap.size w w1 := bl_tr hb0 hb1
  obtain ⟨hc, hf⟩ := bcell hb1
  clear hb0 hb1
  rw [rightE, ht.out, HF.out, e2, e6] at hr
  go_upto_region 3 with fail
  cases d1 : decide (kind < 1) with
  | true =>
    simp [d1] at hr
    have HR := hr
    clear hr
    go_wp2
    go_ret
    rw [← HR.out]
    exact ⟨rfl, hb⟩
  | false =>
    cases d2 : decide (6 < kind) with
    | true =>
      simp [d1, d2] at hr
      have HR := hr
      clear hr
      go_wp2
      go_ret
      rw [← HR.out]
      exact ⟨rfl, hb⟩
    | false =>
      go_upto_region 5 with fail
      cases d3 : decide (tr < 1) with
      | true =>
        simp [d1, d2, d3] at hr
        have HR := hr
        clear hr
        go_wp2
        go_ret
        rw [← HR.out]
        exact ⟨rfl, hb⟩
      | false =>
        cases d4 : decide ((ts.length : Int) < tr) with
        | true =>
          simp [d1, d2, d3, d4] at hr
          have HR := hr
          clear hr
          go_wp2
          go_ret
          rw [← HR.out]
          exact ⟨rfl, hb⟩
        | false =>
          go_upto_region 10 with fail
          cases d5 : decide (am < 1) with
          | true =>
            simp [d1, d2, d3, d4, d5] at hr
            have HR := hr
            clear hr
            go_wp2
            go_ret
            rw [← HR.out]
            exact ⟨rfl, hb⟩
          | false =>
            cases d6 : decide (1000000000000000 < am) with
            | true =>
              simp [d1, d2, d3, d4, d5, d6] at hr
              have HR := hr
              clear hr
              go_wp2
              go_ret
              rw [← HR.out]
              exact ⟨rfl, hb⟩
            | false =>
              go_upto_region 12 with fail
              cases d7 : decide (day < start) with
              | true =>
                simp [d1, d2, d3, d4, d5, d6, d7] at hr
                have HR := hr
                clear hr
                go_wp2
                go_ret
                rw [← HR.out]
                exact ⟨rfl, hb⟩
              | false =>
                cases d8 : decide (2932896 < day) with
                | true =>
                  simp [d1, d2, d3, d4, d5, d6, d7, d8] at hr
                  have HR := hr
                  clear hr
                  go_wp2
                  go_ret
                  rw [← HR.out]
                  exact ⟨rfl, hb⟩
                | false =>
                  go_upto_region 15 with fail
                  cases d9 : ref != 0 with
                  | true =>
                    simp [d1, d2, d3, d4, d5, d6, d7, d8, d9] at hr
                    have HR := hr
                    clear hr
                    go_wp2
                    go_ret
                    rw [← HR.out]
                    exact ⟨rfl, hb⟩
                  | false =>
                    simp [d1, d2, d3, d4, d5, d6, d7, d8, d9] at hr
                    have HR := hr
                    clear hr
                    go_wp2
                    go_ret
                    rw [← HR.out]
                    exact ⟨rfl, hb⟩

theorem refEvRight_any (v : Value) (ts : List (Int × Bool)) (lim cyc dued minf minp start kind day tr am ref r : Int) (hr : Hid (rightE lim ts cyc dued minf minp start kind day tr am ref = r)) (w : World) (hv : TrS w v ts) :
    Calls Try.prog 29 #[.agg #[.int .i64 lim, v, .int .i64 cyc, .int .i64 dued, .int .i64 minf, .int .i64 minp, .int .i64 start], .agg #[.int .i64 kind, .int .i64 day, .int .i64 tr, .int .i64 am, .int .i64 ref]] w (RetB (.int .i64 r) w) := by
  cases ht : rightT lim ts cyc dued minf minp start with
  | false => exact refEvRight_terms v ts lim cyc dued minf minp start kind day tr am ref r (Lib.hid ht) (by have := hr.out; rw [rightE, ht] at this; exact this) w hv
  | true =>
    by_cases h2 : kind = 2
    · subst h2
      exact refEvRight_pay v ts lim cyc dued minf minp start 2 day tr am ref r hr (Lib.hid ht) rfl rfl rfl rfl (Lib.hid rfl) rfl rfl w hv
    · have e2 : (kind == 2) = false := by simpa using h2
      have e2' : (kind != 2) = true := by simpa using h2
      by_cases h6 : kind = 6
      · subst h6
        exact refEvRight_rate v ts lim cyc dued minf minp start 6 day tr am ref r hr (Lib.hid ht) rfl rfl rfl rfl (Lib.hid rfl) rfl rfl w hv
      · have e6 : (kind == 6) = false := by simpa using h6
        have e6' : (kind != 6) = true := by simpa using h6
        by_cases h4 : kind = 4
        · subst h4
          exact refEvRight_disp4 v ts lim cyc dued minf minp start 4 day tr am ref r hr (Lib.hid ht) rfl rfl rfl rfl (Lib.hid rfl) rfl rfl w hv
        · by_cases h5 : kind = 5
          · subst h5
            exact refEvRight_disp5 v ts lim cyc dued minf minp start 5 day tr am ref r hr (Lib.hid ht) rfl rfl rfl rfl (Lib.hid rfl) rfl rfl w hv
          · have e4 : (kind == 4) = false := by simpa using h4
            have e5 : (kind == 5) = false := by simpa using h5
            exact refEvRight_other v ts lim cyc dued minf minp start kind day tr am ref r hr (Lib.hid ht) e2 e2' e6 e6' (Lib.hid (by simp [refd, e4, e5])) e4 e5 w hv
end Go.Proofs.Ytofajlemknkndaa
