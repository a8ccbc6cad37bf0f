/- lombardref06.Take: the document's answer: the terms that bytes are. -/
import Derived.Test.YtdjfpbjlmojikaaTermsTake
import Derived.Test.YtdjfpbjlmojikaaRefTake
import Derived.Test.YtdjfpbjlmojikaaRefRight
import Derived.Deep.RegionLaw
import Derived.Deep.DrawnRows
namespace Go.Proofs.Ytdjfpbjlmojikaa
open Go.RowKit
attribute [local go_sem ↓] Go.wp_at_zero Go.wp_at_succ

set_option maxRecDepth 100000 in
set_option maxHeartbeats 1600000 in
theorem refTake6_any (v : Value) (xs : List Int) (hby : Hid (Byts xs)) (w : World) (hv : Sl .u8 w v xs) (hn : xs.length ≤ 1000000) : Calls Try.prog 27 #[v] w (TakeR xs w) := by
  have HV := Lib.hid hv
  obtain ⟨ao, cap, rfl, h1, ⟨h2, _⟩, h3⟩ := hv
  clear h3
  unfold maxLen at h2
  by_cases hlen : xs.length < 56
  · have HE : Hid (takeE xs = 3) := by simp [Hid, takeE, hlen]
    have d0 : decide ((xs.length : Int) < 56) = true := by simp; omega
    clear hlen
    go_enter Try.func27, Try.ntmps27
    go_wp2
    refine bodyPost_ret (v := .tuple #[.agg #[.int .i64 0, .slice none 0 0, .int .i64 0, .int .i64 0, .int .i64 0, .int .i64 0, .int .i64 0], .int .i64 3]) (by simp [results, Try.results27, go_sem]) rfl (TakeR.no HE.out (by decide) (by repeat (first | with_reducible exact Below.refl _ _ | (with_reducible refine bl_sc ?_ ?hge; case hge => (first | exact Nat.le_refl _ | omega)) | with_reducible refine bl_al ?_ _ | with_reducible refine bl_dr ?_ | with_reducible refine bl_dN ?_ _ | (refine bl_tr ?_ (by assumption)) | (refine bl_gr ?_ (by assumption) (by first | exact Nat.le_refl _ | omega)) | exact Below.refl _ _ | refine bl_al ?_ _ | refine bl_dr ?_ | refine bl_dN ?_ _)))
  · have d0 : decide ((xs.length : Int) < 56) = false := by simp; omega
    have HL56 := Lib.hid (show 56 ≤ xs.length by omega)
    clear hlen
    obtain ⟨y0, hy0⟩ : ∃ y, num8 (xs.drop 0) = y := ⟨_, rfl⟩
    obtain ⟨y1, hy1⟩ : ∃ y, num8 (xs.drop 8) = y := ⟨_, rfl⟩
    obtain ⟨y2, hy2⟩ : ∃ y, num8 (xs.drop 16) = y := ⟨_, rfl⟩
    obtain ⟨y3, hy3⟩ : ∃ y, num8 (xs.drop 24) = y := ⟨_, rfl⟩
    obtain ⟨y4, hy4⟩ : ∃ y, num8 (xs.drop 32) = y := ⟨_, rfl⟩
    obtain ⟨y5, hy5⟩ : ∃ y, num8 (xs.drop 40) = y := ⟨_, rfl⟩
    obtain ⟨n, hnT⟩ : ∃ y, num8 (xs.drop 48) = y := ⟨_, rfl⟩
    have b1 : -9223372036854775808 ≤ y1 ∧ y1 ≤ 9223372036854775807 := hy1 ▸ num8_range _
    have b2 : -9223372036854775808 ≤ y2 ∧ y2 ≤ 9223372036854775807 := hy2 ▸ num8_range _
    have b5 : -9223372036854775808 ≤ y5 ∧ y5 ≤ 9223372036854775807 := hy5 ▸ num8_range _
    obtain ⟨b11, b12⟩ := b1
    obtain ⟨b21, b22⟩ := b2
    obtain ⟨b51, b52⟩ := b5
    have HY := Lib.hid (And.intro hy0 (And.intro hy1 (And.intro hy2 (And.intro hy3 (And.intro hy4 hy5)))))
    have HN := Lib.hid hnT
    clear hy0 hy1 hy2 hy3 hy4 hy5 hnT
    by_cases hnr : n < 1 ∨ 8 < n
    · have HE : Hid (takeE xs = 4) := by
        have := HL56.out
        have e : nT xs = n := HN.out
        show _ = _
        rw [takeE, if_neg (by omega), if_pos (by rw [e]; exact hnr)]
      by_cases hn1 : n < 1
      · have d1 : decide (n < 1) = true := by simpa using hn1
        clear hnr hn1
        go_enter Try.func27, Try.ntmps27
        go_wp2_with fail
        refine (helpTake_any _ xs 48 hby _ (HV.out.alloc _) (by have := HL56.out; omega) hn).mono ?_
        rintro e w' ⟨rfl, rfl⟩
        rw [HN.out]
        go_wp2
        refine bodyPost_ret (v := .tuple #[.agg #[.int .i64 0, .slice none 0 0, .int .i64 0, .int .i64 0, .int .i64 0, .int .i64 0, .int .i64 0], .int .i64 4]) (by simp [results, Try.results27, go_sem]) rfl (TakeR.no HE.out (by decide) (by repeat (first | with_reducible exact Below.refl _ _ | (with_reducible refine bl_sc ?_ ?hge; case hge => (first | exact Nat.le_refl _ | omega)) | with_reducible refine bl_al ?_ _ | with_reducible refine bl_dr ?_ | with_reducible refine bl_dN ?_ _ | (refine bl_tr ?_ (by assumption)) | (refine bl_gr ?_ (by assumption) (by first | exact Nat.le_refl _ | omega)) | exact Below.refl _ _ | refine bl_al ?_ _ | refine bl_dr ?_ | refine bl_dN ?_ _)))
      · have d1 : decide (n < 1) = false := by simpa using hn1
        have d2 : decide (8 < n) = true := by simp; omega
        clear hnr hn1
        go_enter Try.func27, Try.ntmps27
        go_wp2_with fail
        refine (helpTake_any _ xs 48 hby _ (HV.out.alloc _) (by have := HL56.out; omega) hn).mono ?_
        rintro e w' ⟨rfl, rfl⟩
        rw [HN.out]
        go_wp2
        refine bodyPost_ret (v := .tuple #[.agg #[.int .i64 0, .slice none 0 0, .int .i64 0, .int .i64 0, .int .i64 0, .int .i64 0, .int .i64 0], .int .i64 4]) (by simp [results, Try.results27, go_sem]) rfl (TakeR.no HE.out (by decide) (by repeat (first | with_reducible exact Below.refl _ _ | (with_reducible refine bl_sc ?_ ?hge; case hge => (first | exact Nat.le_refl _ | omega)) | with_reducible refine bl_al ?_ _ | with_reducible refine bl_dr ?_ | with_reducible refine bl_dN ?_ _ | (refine bl_tr ?_ (by assumption)) | (refine bl_gr ?_ (by assumption) (by first | exact Nat.le_refl _ | omega)) | exact Below.refl _ _ | refine bl_al ?_ _ | refine bl_dr ?_ | refine bl_dN ?_ _)))
    · obtain ⟨m, rfl⟩ : ∃ m : Nat, n = (m : Int) := ⟨n.toNat, by omega⟩
      have hm1 : 1 ≤ m := by omega
      have hm8 : m ≤ 8 := by omega
      have d1 : decide ((m : Int) < 1) = false := by simp; omega
      have d2 : decide ((8 : Int) < (m : Int)) = false := by simp; omega
      have HSC : Hid (takeE xs = if scanK xs 0 m ≠ 0 then scanK xs 0 m else if okT xs = true then 0 else 4) := by
        have := HL56.out
        have e : nT xs = (m : Int) := HN.out
        show _ = _
        rw [takeE, if_neg (by omega), e, if_neg (by omega), Int.toNat_natCast]
      have HOK : Hid (∀ k, k = m → okT xs = (decide (xs.length = 56 + 9 * k) && rightT y0 (tsK xs k) y1 y2 y3 y4 y5)) := by
        intro k hk
        subst hk
        have e : nT xs = (k : Int) := HN.out
        obtain ⟨q0, q1, q2, q3, q4, q5⟩ := HY.out
        rw [List.drop_zero] at q0
        rw [okT, e, q0, q1, q2, q3, q4, q5, Int.toNat_natCast]
      clear hnr
      obtain ⟨i0, hi, hz0, hz1', hz2⟩ := info_parts info_tr
      go_enter Try.func27, Try.ntmps27
      go_wp2_with fail
      refine (helpTake_any _ xs 48 hby _ (HV.out.alloc _) (by have := HL56.out; omega) hn).mono ?_
      rintro e w' ⟨rfl, rfl⟩
      rw [HN.out]
      go_wp2_with fail
      refine (helpTake_any _ xs 0 hby _ (HV.out.alloc _) (by have := HL56.out; omega) hn).mono ?_
      rintro e w' ⟨rfl, rfl⟩
      rw [HY.out.1]
      go_wp2_with fail
      refine (helpTake_any _ xs 8 hby _ (HV.out.alloc _) (by have := HL56.out; omega) hn).mono ?_
      rintro e w' ⟨rfl, rfl⟩
      rw [HY.out.2.1]
      go_wp2_with fail
      refine (helpTake_any _ xs 16 hby _ (HV.out.alloc _) (by have := HL56.out; omega) hn).mono ?_
      rintro e w' ⟨rfl, rfl⟩
      rw [HY.out.2.2.1]
      go_wp2_with fail
      refine (helpTake_any _ xs 24 hby _ (HV.out.alloc _) (by have := HL56.out; omega) hn).mono ?_
      rintro e w' ⟨rfl, rfl⟩
      rw [HY.out.2.2.2.1]
      go_wp2_with fail
      refine (helpTake_any _ xs 32 hby _ (HV.out.alloc _) (by have := HL56.out; omega) hn).mono ?_
      rintro e w' ⟨rfl, rfl⟩
      rw [HY.out.2.2.2.2.1]
      go_wp2_with fail
      refine (helpTake_any _ xs 40 hby _ (HV.out.alloc _) (by have := HL56.out; omega) hn).mono ?_
      rintro e w' ⟨rfl, rfl⟩
      rw [HY.out.2.2.2.2.2]
      go_wp2_with fail
      have hA0 : Blk ((w.alloc (.cells #[.int .i64 0, .slice none 0 0, .int .i64 0, .int .i64 0, .int .i64 0, .int .i64 0, .int .i64 0] 26)).alloc (.cells #[.int .i64 y0, .slice none 0 0, .int .i64 y1, .int .i64 y2, .int .i64 y3, .int .i64 y4, .int .i64 y5] 26)) w.heap.size 26 zeroT := Blk.below (w := (w.alloc (.cells #[.int .i64 0, .slice none 0 0, .int .i64 0, .int .i64 0, .int .i64 0, .int .i64 0, .int .i64 0] 26))) (heap_alloc_new w _) (by repeat (first | with_reducible exact Below.refl _ _ | (with_reducible refine bl_sc ?_ ?hge; case hge => (first | exact Nat.le_refl _ | omega)) | with_reducible refine bl_al ?_ _ | with_reducible refine bl_dr ?_ | with_reducible refine bl_dN ?_ _ | (refine bl_tr ?_ (by assumption)) | (refine bl_gr ?_ (by assumption) (by first | exact Nat.le_refl _ | omega)) | exact Below.refl _ _ | refine bl_al ?_ _ | refine bl_dr ?_ | refine bl_dN ?_ _))
      have hC0 : Blk ((w.alloc (.cells #[.int .i64 0, .slice none 0 0, .int .i64 0, .int .i64 0, .int .i64 0, .int .i64 0, .int .i64 0] 26)).alloc (.cells #[.int .i64 y0, .slice none 0 0, .int .i64 y1, .int .i64 y2, .int .i64 y3, .int .i64 y4, .int .i64 y5] 26)) (w.heap.size + 1) 26 [.int .i64 y0, .slice none 0 0, .int .i64 y1, .int .i64 y2, .int .i64 y3, .int .i64 y4, .int .i64 y5] := by
        have h := heap_alloc_new (w.alloc (.cells #[.int .i64 0, .slice none 0 0, .int .i64 0, .int .i64 0, .int .i64 0, .int .i64 0, .int .i64 0] 26)) (.cells #[.int .i64 y0, .slice none 0 0, .int .i64 y1, .int .i64 y2, .int .i64 y3, .int .i64 y4, .int .i64 y5] 26)
        rw [World.size_alloc] at h
        exact h
      have hbw0 : Below w.heap.size w ((w.alloc (.cells #[.int .i64 0, .slice none 0 0, .int .i64 0, .int .i64 0, .int .i64 0, .int .i64 0, .int .i64 0] 26)).alloc (.cells #[.int .i64 y0, .slice none 0 0, .int .i64 y1, .int .i64 y2, .int .i64 y3, .int .i64 y4, .int .i64 y5] 26)) := (by repeat (first | with_reducible exact Below.refl _ _ | (with_reducible refine bl_sc ?_ ?hge; case hge => (first | exact Nat.le_refl _ | omega)) | with_reducible refine bl_al ?_ _ | with_reducible refine bl_dr ?_ | with_reducible refine bl_dN ?_ _ | (refine bl_tr ?_ (by assumption)) | (refine bl_gr ?_ (by assumption) (by first | exact Nat.le_refl _ | omega)) | exact Below.refl _ _ | refine bl_al ?_ _ | refine bl_dr ?_ | refine bl_dN ?_ _))
      go_loopg [6, 7] m (fun g at_ i wr => ∃ k q : Nat, k + g = m ∧ i = .int .i64 k ∧ at_ = .int .i64 q ∧ Hid (q = 56 + 9 * k) ∧ Hid (scanK xs k (m - k) = scanK xs 0 m) ∧ (∃ u : Value, Blk wr (w.heap.size + 1) 26 [.int .i64 y0, u, .int .i64 y1, .int .i64 y2, .int .i64 y3, .int .i64 y4, .int .i64 y5] ∧ wr.ownsRow (w.heap.size + 2) 23 2 u k (cells2 (tsK xs k))) ∧
          Blk wr w.heap.size 26 zeroT ∧ Below w.heap.size w wr ∧ Hid (56 + 9 * k ≤ xs.length))
      case atStart => exact ⟨0, 56, by omega, rfl, rfl, rfl, rfl, ⟨_, hC0, World.ownsRow_nil _ _ _ _⟩, hA0, hbw0, by have := HL56.out; exact this⟩
      case round =>
        obtain ⟨k, q, hkg, rfl, rfl, HQ, HK, ⟨u, hC, hown⟩, hA, hb, HLk⟩ := hrel
        have hq1 : 56 ≤ q := by have := HQ.out; omega
        have hq2 : q ≤ 128 := by have := HQ.out; omega
        cases gk with
        | zero =>
          have hlt : ¬ ((k : Int) < (m : Int)) := by omega
          have hkm : k = m := by omega
          have HSZ : Hid (scanK xs 0 m = 0) := by
            have := HK.out
            rw [hkm, Nat.sub_self] at this
            exact this.symm
          have HEV : Hid (takeE xs = if okT xs = true then 0 else 4) := by
            show _ = _
            rw [HSC.out, HSZ.out]
            rfl
          have HOK2 := Lib.hid (HOK.out k hkm)
          have HKM := Lib.hid hkm
          clear hkm
          have a0 := hA.cell 0
          have a1 := hA.cell 1
          have a2 := hA.cell 2
          have a3 := hA.cell 3
          have a4 := hA.cell 4
          have a5 := hA.cell 5
          have a6 := hA.cell 6
          have f0 := hA.frozen 0
          have f1 := hA.frozen 1
          have f2 := hA.frozen 2
          have f3 := hA.frozen 3
          have f4 := hA.frozen 4
          have f5 := hA.frozen 5
          have f6 := hA.frozen 6
          simp only [zeroT, List.getElem?_cons_zero, List.getElem?_cons_succ] at a0 a1 a2 a3 a4 a5 a6
          by_cases hl : (xs.length : Int) ≤ (q : Int)
          · have dl : decide (q < xs.length) = false := by simp; omega
            have hl2 : xs.length = 56 + 9 * k := by have := HQ.out; have := HLk.out; omega
            obtain ⟨g3, cap3, rfl⟩ := own_shape hown (by omega)
            have hg3 : g3 ≠ w.heap.size := by have := (hown.lt g3 rfl).1; omega
            have hts : TrS wr (.slice (some ⟨g3, 0, none⟩) k cap3) (tsK xs k) := TrS.of_own hown (tsK_length _ _)
            have c0 := hC.cell 0
            have c1 := hC.cell 1
            have c2 := hC.cell 2
            have c3 := hC.cell 3
            have c4 := hC.cell 4
            have c5 := hC.cell 5
            have c6 := hC.cell 6
            simp only [List.getElem?_cons_zero, List.getElem?_cons_succ] at c0 c1 c2 c3 c4 c5 c6
            have HAk := Lib.hid hA
            have HBk := Lib.hid hb
            have HCk := Lib.hid hC
            cases hrt : rightT y0 (tsK xs k) y1 y2 y3 y4 y5 with
            | false =>
              have HE : Hid (takeE xs = 4) := by
                show _ = _
                rw [HEV.out, HOK2.out, hrt, Bool.and_false]
                rfl
              have HRT := Lib.hid (show (if rightT y0 (tsK xs k) y1 y2 y3 y4 y5 = true then (0 : Int) else 6) = 6 from by rw [hrt]; rfl)
              clear hrt hA hb hC hown hl hl2 a0 a1 a2 a3 a4 a5 a6 f0 f1 f2 f3 f4 f5 f6
              go_wp2_with fail
              refine (refRight_any _ _ _ _ _ _ _ _ 6 HRT _ hts).mono ?_
              rintro e we ⟨rfl, hbe⟩
              have hAe := HAk.out.below hbe
              have hbb := bl_tr HBk.out hbe
              have a0 := hAe.cell 0
              have a1 := hAe.cell 1
              have a2 := hAe.cell 2
              have a3 := hAe.cell 3
              have a4 := hAe.cell 4
              have a5 := hAe.cell 5
              have a6 := hAe.cell 6
              have f0 := hAe.frozen 0
              have f1 := hAe.frozen 1
              have f2 := hAe.frozen 2
              have f3 := hAe.frozen 3
              have f4 := hAe.frozen 4
              have f5 := hAe.frozen 5
              have f6 := hAe.frozen 6
              simp only [zeroT, List.getElem?_cons_zero, List.getElem?_cons_succ] at a0 a1 a2 a3 a4 a5 a6
              clear c0 c1 c2 c3 c4 c5 c6 hAe hts hbe
              go_wp2
              refine bodyPost_ret (v := .tuple #[.agg #[.int .i64 0, .slice none 0 0, .int .i64 0, .int .i64 0, .int .i64 0, .int .i64 0, .int .i64 0], .int .i64 4]) (by simp [results, Try.results27, go_sem, a0, a1, a2, a3, a4, a5, a6]) rfl (TakeR.no HE.out (by decide) (by repeat (first | with_reducible exact Below.refl _ _ | (with_reducible refine bl_sc ?_ ?hge; case hge => (first | exact Nat.le_refl _ | omega)) | with_reducible refine bl_al ?_ _ | with_reducible refine bl_dr ?_ | with_reducible refine bl_dN ?_ _ | (refine bl_tr ?_ (by assumption)) | (refine bl_gr ?_ (by assumption) (by first | exact Nat.le_refl _ | omega)) | exact Below.refl _ _ | refine bl_al ?_ _ | refine bl_dr ?_ | refine bl_dN ?_ _)))
            | true =>
              have HE : Hid (takeE xs = 0) := by
                show _ = _
                rw [HEV.out, HOK2.out, hrt, Bool.and_true, decide_eq_true hl2]
                rfl
              have HRT := Lib.hid (show (if rightT y0 (tsK xs k) y1 y2 y3 y4 y5 = true then (0 : Int) else 6) = 0 from by rw [hrt]; rfl)
              have HTS := Lib.hid hts
              clear hrt hA hb hC hown hl hl2 a0 a1 a2 a3 a4 a5 a6 f0 f1 f2 f3 f4 f5 f6
              go_wp2_with fail
              refine (refRight_any _ _ _ _ _ _ _ _ 0 HRT _ hts).mono ?_
              rintro e we ⟨rfl, hbe⟩
              have hAe := HAk.out.below hbe
              have hCe := HCk.out.below hbe
              have hbb := bl_tr HBk.out hbe
              have HTE := Lib.hid (HTS.out.below hbe)
              clear c0 c1 c2 c3 c4 c5 c6 hts hbe
              have c0 := hCe.cell 0
              have c1 := hCe.cell 1
              have c2 := hCe.cell 2
              have c3 := hCe.cell 3
              have c4 := hCe.cell 4
              have c5 := hCe.cell 5
              have c6 := hCe.cell 6
              simp only [List.getElem?_cons_zero, List.getElem?_cons_succ] at c0 c1 c2 c3 c4 c5 c6
              have a0 := hAe.cell 0
              have a1 := hAe.cell 1
              have a2 := hAe.cell 2
              have a3 := hAe.cell 3
              have a4 := hAe.cell 4
              have a5 := hAe.cell 5
              have a6 := hAe.cell 6
              have f0 := hAe.frozen 0
              have f1 := hAe.frozen 1
              have f2 := hAe.frozen 2
              have f3 := hAe.frozen 3
              have f4 := hAe.frozen 4
              have f5 := hAe.frozen 5
              have f6 := hAe.frozen 6
              simp only [zeroT, List.getElem?_cons_zero, List.getElem?_cons_succ] at a0 a1 a2 a3 a4 a5 a6
              clear hAe hCe
              go_wp2
              refine bodyPost_ret (v := .tuple #[.agg #[.int .i64 y0, .slice (some ⟨g3, 0, none⟩) k cap3, .int .i64 y1, .int .i64 y2, .int .i64 y3, .int .i64 y4, .int .i64 y5], .int .i64 0]) (by simp [results, Try.results27, go_sem, a0, a1, a2, a3, a4, a5, a6]) rfl ?_
              obtain ⟨q0, q1, q2, q3, q4, q5⟩ := HY.out
              rw [← q0, ← q1, ← q2, ← q3, ← q4, ← q5, List.drop_zero]
              refine TakeR.yes HE.out ?_ (by repeat (first | with_reducible exact Below.refl _ _ | (with_reducible refine bl_sc ?_ ?hge; case hge => (first | exact Nat.le_refl _ | omega)) | with_reducible refine bl_al ?_ _ | with_reducible refine bl_dr ?_ | with_reducible refine bl_dN ?_ _ | (refine bl_tr ?_ (by assumption)) | (refine bl_gr ?_ (by assumption) (by first | exact Nat.le_refl _ | omega)) | exact Below.refl _ _ | refine bl_al ?_ _ | refine bl_dr ?_ | refine bl_dN ?_ _))
              have e : nT xs = (m : Int) := HN.out
              rw [e, Int.toNat_natCast, ← HKM.out]
              exact ((((((HTE.out.setOther hg3).setOther hg3).setOther hg3).setOther hg3).setOther hg3).setOther hg3).setOther hg3
          · have dl : decide (q < xs.length) = true := by simp; omega
            have HE : Hid (takeE xs = 4) := by
              have h1 : ¬ xs.length = 56 + 9 * k := by have := HQ.out; omega
              show _ = _
              rw [HEV.out, HOK2.out, decide_eq_false h1, Bool.false_and]
              rfl
            have HBk := Lib.hid hb
            clear hA hb hC hown hl
            have hbb := HBk.out
            go_wp2
            refine bodyPost_ret (v := .tuple #[.agg #[.int .i64 0, .slice none 0 0, .int .i64 0, .int .i64 0, .int .i64 0, .int .i64 0, .int .i64 0], .int .i64 4]) (by simp [results, Try.results27, go_sem, a0, a1, a2, a3, a4, a5, a6]) rfl (TakeR.no HE.out (by decide) (by repeat (first | with_reducible exact Below.refl _ _ | (with_reducible refine bl_sc ?_ ?hge; case hge => (first | exact Nat.le_refl _ | omega)) | with_reducible refine bl_al ?_ _ | with_reducible refine bl_dr ?_ | with_reducible refine bl_dN ?_ _ | (refine bl_tr ?_ (by assumption)) | (refine bl_gr ?_ (by assumption) (by first | exact Nat.le_refl _ | omega)) | exact Below.refl _ _ | refine bl_al ?_ _ | refine bl_dr ?_ | refine bl_dN ?_ _)))
        | succ g =>
          have hlt : (k : Int) < (m : Int) := by omega
          have a0 := hA.cell 0
          have a1 := hA.cell 1
          have a2 := hA.cell 2
          have a3 := hA.cell 3
          have a4 := hA.cell 4
          have a5 := hA.cell 5
          have a6 := hA.cell 6
          have f0 := hA.frozen 0
          have f1 := hA.frozen 1
          have f2 := hA.frozen 2
          have f3 := hA.frozen 3
          have f4 := hA.frozen 4
          have f5 := hA.frozen 5
          have f6 := hA.frozen 6
          simp only [zeroT, List.getElem?_cons_zero, List.getElem?_cons_succ] at a0 a1 a2 a3 a4 a5 a6
          have hLk := HLk.out
          by_cases hbad : xs.length < 65 + 9 * k
          · have d3 : decide ((xs.length : Int) < (q : Int) + 9) = true := by have := HQ.out; simp; omega
            have HE : Hid (takeE xs = 3) := by
              have hb3 : badK xs k = 3 := by rw [badK, if_pos hbad]
              have := HK.out
              rw [show m - k = g + 1 from by omega, scanK_bad (by rw [hb3]; decide), hb3] at this
              show _ = _
              rw [HSC.out, ← this]
              rfl
            have hbb := hb
            clear hA hb hC hown hbad
            go_wp2
            refine bodyPost_ret (v := .tuple #[.agg #[.int .i64 0, .slice none 0 0, .int .i64 0, .int .i64 0, .int .i64 0, .int .i64 0, .int .i64 0], .int .i64 3]) (by simp [results, Try.results27, go_sem, a0, a1, a2, a3, a4, a5, a6]) rfl (TakeR.no HE.out (by decide) (by repeat (first | with_reducible exact Below.refl _ _ | (with_reducible refine bl_sc ?_ ?hge; case hge => (first | exact Nat.le_refl _ | omega)) | with_reducible refine bl_al ?_ _ | with_reducible refine bl_dr ?_ | with_reducible refine bl_dN ?_ _ | (refine bl_tr ?_ (by assumption)) | (refine bl_gr ?_ (by assumption) (by first | exact Nat.le_refl _ | omega)) | exact Below.refl _ _ | refine bl_al ?_ _ | refine bl_dr ?_ | refine bl_dN ?_ _)))
          · have d3 : decide ((xs.length : Int) < (q : Int) + 9) = false := by have := HQ.out; simp; omega
            have hql : q + 9 ≤ xs.length := by have := HQ.out; omega
            obtain ⟨b, o, gr, rfl, hcw, HX⟩ := HV.out.get (i := q + 8) (by omega)
            have hcell : wr.cell? ⟨b, o + (q + 8), none⟩ = some (.int .u8 gr) := (hb.cell (p := ⟨b, o + (q + 8), none⟩) (cell_block_lt hcw)).trans hcw
            have HCW := Lib.hid hcw
            clear hcw
            have HGR : Hid (xs.getD (64 + 9 * k) 0 = gr) := by
              have e := HX.out
              rw [show q + 8 = 64 + 9 * k from by have := HQ.out; omega] at e
              exact e
            have hgrr : 0 ≤ gr ∧ gr < 256 := by rw [← HX.out]; exact hby.out.getD (by omega)
            have HBAD := Lib.hid hbad
            clear hbad
            have hcell2 : wr.cell? ⟨b, o + q + 8, none⟩ = some (.int .u8 gr) := by rw [← hcell]; congr 2
            by_cases hg1 : 1 < gr
            · have dg : decide (1 < gr) = true := by simpa using hg1
              have HE : Hid (takeE xs = 4) := by
                have hb3 : badK xs k = 4 := by rw [badK, if_neg HBAD.out, HGR.out, if_pos hg1]
                have := HK.out
                rw [show m - k = g + 1 from by omega, scanK_bad (by rw [hb3]; decide), hb3] at this
                show _ = _
                rw [HSC.out, ← this]
                rfl
              have hbb := hb
              clear hA hb hC hown hg1
              go_wp2
              refine bodyPost_ret (v := .tuple #[.agg #[.int .i64 0, .slice none 0 0, .int .i64 0, .int .i64 0, .int .i64 0, .int .i64 0, .int .i64 0], .int .i64 4]) (by simp [results, Try.results27, go_sem, a0, a1, a2, a3, a4, a5, a6]) rfl (TakeR.no HE.out (by decide) (by repeat (first | with_reducible exact Below.refl _ _ | (with_reducible refine bl_sc ?_ ?hge; case hge => (first | exact Nat.le_refl _ | omega)) | with_reducible refine bl_al ?_ _ | with_reducible refine bl_dr ?_ | with_reducible refine bl_dN ?_ _ | (refine bl_tr ?_ (by assumption)) | (refine bl_gr ?_ (by assumption) (by first | exact Nat.le_refl _ | omega)) | exact Below.refl _ _ | refine bl_al ?_ _ | refine bl_dr ?_ | refine bl_dN ?_ _)))
            · have dg : decide (1 < gr) = false := by simpa using hg1
              have HKS : Hid (scanK xs (k + 1) (m - (k + 1)) = scanK xs 0 m) := by
                have hb3 : badK xs k = 0 := by rw [badK, if_neg HBAD.out, HGR.out, if_neg hg1]
                have := HK.out
                rw [show m - k = g + 1 from by omega, scanK_good hb3] at this
                show _ = _
                rw [show m - (k + 1) = g from by omega]
                exact this
              clear a0 a1 a2 a3 a4 a5 a6 f0 f1 f2 f3 f4 f5 f6
              go_wp2_with fail
              have e1 : wr.cell? ⟨w.heap.size + 1, 1, none⟩ = some u := hC.cell 1
              have hCne : ∀ q, u.ownBlock = some q → w.heap.size + 2 ≤ q := fun q hq => (hown.lt q hq).1
              have HCNE := Lib.hid hCne
              have hsz : w.heap.size + 2 ≤ wr.heap.size := hC.lt
              have hbi0 : (0 : Int) ≤ (q : Int) + 8 := by omega
              have hbi1 : (q : Int) + 8 < (xs.length : Int) := by omega
              have hq8 : q + 8 ≤ xs.length := by omega
              have hm63 : k + 1 ≤ maxLen := by unfold maxLen; omega
              have hbyt : (k + 1) * 16 ≤ 140737488355328 := by omega
              have hwr : IntKind.i64.wrap ((q : Int) + 8) = (q : Int) + 8 := IntWalk.i64_in _ (by omega)
              have htn : ((q : Int) + 8).toNat = q + 8 := by omega
              have HA2 := Lib.hid hA
              have HB2 := Lib.hid hb
              have HC2 := Lib.hid hC
              have HOW := Lib.hid hown
              have HVB := Lib.hid (HV.out.below hb)
              clear hC hA hb hCne hg1 hown
              have e1a : ∀ ob : Obj, (wr.alloc ob).cell? ⟨w.heap.size + 1, 1, none⟩ = some u := fun ob => (HC2.out.below (bl_al (Below.refl _ _) ob)).cell 1
              have hca : ∀ ob : Obj, (wr.alloc ob).cell? ⟨b, o + (q + 8), none⟩ = some (.int .u8 gr) := fun ob => ((bl_al (Below.refl wr.heap.size wr) ob).cell (p := ⟨b, o + (q + 8), none⟩) (cell_block_lt hcell)).trans hcell
              go_region_law
                (first
                  | (go_simp; go_at_call 37; refine (helpTake_any _ xs q hby _ (by first | exact HVB.out | exact HV.out.below (bl_dr HB2.out)) hq8 hn).mono ?_; rintro e wq ⟨rfl, rfl⟩)
                  | (refine step_append_any _ rfl (.tmp 53) (.tmp 64) 24 rfl (w.heap.size + 2) 23 i0 (.agg #[.int .i64 0, .bool false]) 2 16 Try.underlying24 hi hz0 hz1' hz2 rfl (by decide) u k (cells2 (tsK xs k)) (by rfl) (by first | exact HOW.out.alloc _ | exact (HOW.out.alloc _).drew) (some ⟨wr.heap.size, 0, none⟩) 1 1 [.int .i64 (num8 (xs.drop q)), .bool (gr == 1)] (by rfl) rfl (by intro h; cases h) (by intro ad had; cases had; exact news2 wr _ _ _) (fun x hx => by simp at hx; rcases hx with rfl | rfl <;> rfl) hm63 hbyt (by first | (rw [World.size_alloc]; exact Nat.le_succ_of_le hsz) | (rw [World.size_drew, World.size_alloc]; exact Nat.le_succ_of_le hsz)) ?_; intro v1 w9 hown3 hg3 hn3; clear hn3; obtain ⟨g3, cap3, rfl⟩ := own_shape hown3 (Nat.succ_pos k); have HG3 := Lib.hid hg3; have hC3 := blk_grownR (by first | exact HC2.out.below (bl_al (Below.refl _ _) _) | exact HC2.out.below (bl_al (bl_dr (Below.refl _ _)) _) | exact HC2.out.below (bl_dr (bl_al (Below.refl _ _) _))) hg3 (fun e => Nat.lt_irrefl _ (HCNE.out _ e.symm)); have e3 : w9.cell? ⟨w.heap.size + 1, 1, none⟩ = some u := hC3.cell 1; have f3 := hC3.frozen 1; have HC3 := Lib.hid hC3; have hb3 : Below w.heap.size w w9 := Below.grown (by first | exact bl_al HB2.out _ | exact bl_al (bl_dr HB2.out) _ | exact bl_dr (bl_al HB2.out _)) hg3 (by first | (rw [World.size_alloc]; exact Nat.le_succ_of_le HB2.out.size) | exact HB2.out.size | (rw [World.size_drew, World.size_alloc]; exact Nat.le_succ_of_le HB2.out.size)) (fun q hq => Nat.le_of_succ_le (Nat.le_of_succ_le (HCNE.out q hq))); have hc3 : w9.cell? ⟨b, o + (q + 8), none⟩ = some (.int .u8 gr) := (hb3.cell (p := ⟨b, o + (q + 8), none⟩) (cell_block_lt HCW.out)).trans HCW.out; have HB3 := Lib.hid hb3; clear hC3 hg3 hb3))
              all_goals
                clear hwr htn e1a hca e1 hcell
                have hA3 := blk_grownR (by first | exact HA2.out.below (bl_al (Below.refl _ _) _) | exact HA2.out.below (bl_al (bl_dr (Below.refl _ _)) _) | exact HA2.out.below (bl_dr (bl_al (Below.refl _ _) _))) HG3.out (fun e => by have := HCNE.out _ e.symm; omega)
                have HB3' := HB3.out
                have HT3 : Hid (w9.ownsRow (w.heap.size + 2) 23 2 (.slice (some ⟨g3, 0, none⟩) (k + 1) cap3) (k + 1) (cells2 (tsK xs (k + 1)))) := by
                  have e : trK xs k = (num8 (xs.drop q), gr == 1) := by
                    unfold trK
                    rw [HGR.out, ← HQ.out]
                  rw [tsK_succ, cells2_append, e]
                  exact hown3
                clear hown3
                go_wp2_with fail
                go_roundg g
                case measure => omega
                case rel => exact ⟨k + 1, q + 9, by omega, by go_num, by go_num, by have := HQ.out; show _ = _; omega, HKS, ⟨_, HC3.out.set 1 _, ownsRow_setCell_below HT3.out (Nat.lt_succ_self _) _⟩, hA3.setOther (by omega) _ _, bl_sc HB3' (by omega), by have := HBAD.out; show _ ≤ _; omega⟩
end Go.Proofs.Ytdjfpbjlmojikaa
