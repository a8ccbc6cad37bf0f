/- terms.Right: which terms are right. -/
import Derived.Test.YtllblmoojohffaaTerms
namespace Go.Proofs.Ytllblmoojohffaa
open Go.RowKit

/-- The rates of tranches are right. -/
def ratesT (ts : List (Int × Bool)) : Bool := ts.all (fun x => betw x.1 0 10000000)
/-- Which terms are right. -/
def rightT (lim : Int) (ts : List (Int × Bool)) (cyc dued minf minp start : Int) : Bool :=
  betw lim 0 1000000000000000 && betw ts.length 1 8 && ratesT ts && (betw cyc 1 28 && betw dued 1 25) &&
    betw minf 0 1000000000000000 && betw minp 0 1000 && betw start (-135140) 2922896
theorem betw_iff {v a b : Int} : betw v a b = true ↔ a ≤ v ∧ v ≤ b := by simp [betw]
theorem betw_no {v a b : Int} : betw v a b = false ↔ v < a ∨ b < v := by
  rw [← Bool.not_eq_true, betw_iff]; omega
theorem ratesT_no {ts : List (Int × Bool)} {k : Nat} (hk : k < ts.length) {x : Int} {g : Bool} (he : ts.getD k (0, false) = (x, g)) (h : betw x 0 10000000 = false) : ratesT ts = false := by
  unfold ratesT
  rw [List.all_eq_false]
  refine ⟨(x, g), ?_, by simp [h]⟩
  rw [← he]
  simp [List.getD, hk]
theorem ratesT_yes {ts : List (Int × Bool)} (h : ∀ j, j < ts.length → betw (ts.getD j (0, false)).1 0 10000000 = true) : ratesT ts = true := by
  unfold ratesT
  rw [List.all_eq_true]
  intro x hx
  obtain ⟨j, hj, rfl⟩ := List.getElem_of_mem hx
  have := h j hj
  simpa [List.getD, hj] using this

/-- The cells of terms that lie in a block. -/
def TB (w : World) (g : Nat) (lim : Int) (v : Value) (cyc dued minf minp start : Int) : Prop :=
  w.cell? ⟨g, 0, none⟩ = some (.int .i64 lim) ∧ w.cell? ⟨g, 1, none⟩ = some v ∧ w.cell? ⟨g, 2, none⟩ = some (.int .i64 cyc) ∧ w.cell? ⟨g, 3, none⟩ = some (.int .i64 dued) ∧
    w.cell? ⟨g, 4, none⟩ = some (.int .i64 minf) ∧ w.cell? ⟨g, 5, none⟩ = some (.int .i64 minp) ∧ w.cell? ⟨g, 6, none⟩ = some (.int .i64 start)
theorem TB.below {w w' : World} {g : Nat} {lim : Int} {v : Value} {cyc dued minf minp start : Int} (h : TB w g lim v cyc dued minf minp start) (hb : Below w.heap.size w w') : TB w' g lim v cyc dued minf minp start := by
  obtain ⟨h0, h1, h2, h3, h4, h5, h6⟩ := h
  have q : ∀ i x, w.cell? ⟨g, i, none⟩ = some x → w'.cell? ⟨g, i, none⟩ = some x := fun i x hx => (hb.cell (p := ⟨g, i, none⟩) (cell_block_lt hx)).trans hx
  exact ⟨q _ _ h0, q _ _ h1, q _ _ h2, q _ _ h3, q _ _ h4, q _ _ h5, q _ _ h6⟩
theorem TB.new (w : World) (e : TypeId) (lim : Int) (v : Value) (cyc dued minf minp start : Int) :
    TB (w.alloc (.cells #[.int .i64 lim, v, .int .i64 cyc, .int .i64 dued, .int .i64 minf, .int .i64 minp, .int .i64 start] e)) w.heap.size lim v cyc dued minf minp start := by
  have h : Blk (w.alloc (.cells #[.int .i64 lim, v, .int .i64 cyc, .int .i64 dued, .int .i64 minf, .int .i64 minp, .int .i64 start] e)) w.heap.size e [.int .i64 lim, v, .int .i64 cyc, .int .i64 dued, .int .i64 minf, .int .i64 minp, .int .i64 start] := heap_alloc_new w _
  refine ⟨?_, ?_, ?_, ?_, ?_, ?_, ?_⟩ <;> (rw [h.cell]; rfl)

set_option maxHeartbeats 800000 in
theorem termsRight_any (v : Value) (ts : List (Int × Bool)) (lim cyc dued minf minp start : Int) (r : Int) (hr : Hid ((if rightT lim ts cyc dued minf minp start = true then 0 else 6) = r)) (w : World) (hv : TrS w v ts) :
    Calls Try.prog 42 #[.agg #[.int .i64 lim, v, .int .i64 cyc, .int .i64 dued, .int .i64 minf, .int .i64 minp, .int .i64 start]] w (RetB (.int .i64 r) w) := by
  have HV := Lib.hid hv
  obtain ⟨ao, cap, rfl, h1, ⟨h2, _⟩, h3⟩ := hv
  clear h3
  unfold maxLen at h2
  have HR6 : Hid (rightT lim ts cyc dued minf minp start = false → r = 6) := fun h => by rw [← hr.out, h]; rfl
  have HR0 : Hid (rightT lim ts cyc dued minf minp start = true → r = 0) := fun h => by rw [← hr.out, h]; rfl
  clear hr
  have hT := TB.new w 34 lim (.slice ao ts.length cap) cyc dued minf minp start
  have hb0 : Below w.heap.size w (w.alloc (.cells #[.int .i64 lim, .slice ao ts.length cap, .int .i64 cyc, .int .i64 dued, .int .i64 minf, .int .i64 minp, .int .i64 start] 34)) := (Below.refl _ _).alloc (Nat.le_refl _) _
  go_enter Try.func42, Try.ntmps42
  go_wp2
  refine wp_scope_back 0 (fun a' w' => ∃ (u0 u1 u2 u3 u4 u5 u6 u7 u8 u9 u10 u11 u12 u13 u14 u15 u16 u17 u18 u19 u20 u21 u22 u23 u24 u25 u26 u27 u28 u29 u30 u31 u32 u33 u34 u35 u36 u37 u38 u39 u40 u41 u42 u43 u44 u45 u46 u47 u48 u49 u50 u51 u52 u53 u54 u55 u56 u57 u58 u59 u60 u61 u62 u63 u64 u65 u66 u67 u68 : Value), a' = { tmps := #[u0, u1, u2, u3, u4, u5, u6, u7, u8, u9, u10, u11, u12, u13, u14, u15, u16, u17, u18, u19, u20, u21, u22, u23, u24, u25, u26, u27, u28, u29, u30, u31, u32, u33, u34, u35, u36, u37, u38, u39, u40, u41, u42, u43, u44, u45, u46, u47, u48, u49, u50, u51, u52, u53, u54, u55, u56, u57, u58, u59, u60, u61, u62, u63, u64, u65, u66, u67, u68], defers := [] } ∧ Hid (r = 6) ∧ Below w.heap.size w w')
    (fun _ _ => 0) rfl ?pass ?first
  case pass =>
    intro a1 w1 hJ J' hJ'
    clear hJ'
    obtain ⟨u0, hJ⟩ := hJ
    obtain ⟨u1, hJ⟩ := hJ
    obtain ⟨u2, hJ⟩ := hJ
    obtain ⟨u3, hJ⟩ := hJ
    obtain ⟨u4, hJ⟩ := hJ
    obtain ⟨u5, hJ⟩ := hJ
    obtain ⟨u6, hJ⟩ := hJ
    obtain ⟨u7, hJ⟩ := hJ
    obtain ⟨u8, hJ⟩ := hJ
    obtain ⟨u9, hJ⟩ := hJ
    obtain ⟨u10, hJ⟩ := hJ
    obtain ⟨u11, hJ⟩ := hJ
    obtain ⟨u12, hJ⟩ := hJ
    obtain ⟨u13, hJ⟩ := hJ
    obtain ⟨u14, hJ⟩ := hJ
    obtain ⟨u15, hJ⟩ := hJ
    obtain ⟨u16, hJ⟩ := hJ
    obtain ⟨u17, hJ⟩ := hJ
    obtain ⟨u18, hJ⟩ := hJ
    obtain ⟨u19, hJ⟩ := hJ
    obtain ⟨u20, hJ⟩ := hJ
    obtain ⟨u21, hJ⟩ := hJ
    obtain ⟨u22, hJ⟩ := hJ
    obtain ⟨u23, hJ⟩ := hJ
    obtain ⟨u24, hJ⟩ := hJ
    obtain ⟨u25, hJ⟩ := hJ
    obtain ⟨u26, hJ⟩ := hJ
    obtain ⟨u27, hJ⟩ := hJ
    obtain ⟨u28, hJ⟩ := hJ
    obtain ⟨u29, hJ⟩ := hJ
    obtain ⟨u30, hJ⟩ := hJ
    obtain ⟨u31, hJ⟩ := hJ
    obtain ⟨u32, hJ⟩ := hJ
    obtain ⟨u33, hJ⟩ := hJ
    obtain ⟨u34, hJ⟩ := hJ
    obtain ⟨u35, hJ⟩ := hJ
    obtain ⟨u36, hJ⟩ := hJ
    obtain ⟨u37, hJ⟩ := hJ
    obtain ⟨u38, hJ⟩ := hJ
    obtain ⟨u39, hJ⟩ := hJ
    obtain ⟨u40, hJ⟩ := hJ
    obtain ⟨u41, hJ⟩ := hJ
    obtain ⟨u42, hJ⟩ := hJ
    obtain ⟨u43, hJ⟩ := hJ
    obtain ⟨u44, hJ⟩ := hJ
    obtain ⟨u45, hJ⟩ := hJ
    obtain ⟨u46, hJ⟩ := hJ
    obtain ⟨u47, hJ⟩ := hJ
    obtain ⟨u48, hJ⟩ := hJ
    obtain ⟨u49, hJ⟩ := hJ
    obtain ⟨u50, hJ⟩ := hJ
    obtain ⟨u51, hJ⟩ := hJ
    obtain ⟨u52, hJ⟩ := hJ
    obtain ⟨u53, hJ⟩ := hJ
    obtain ⟨u54, hJ⟩ := hJ
    obtain ⟨u55, hJ⟩ := hJ
    obtain ⟨u56, hJ⟩ := hJ
    obtain ⟨u57, hJ⟩ := hJ
    obtain ⟨u58, hJ⟩ := hJ
    obtain ⟨u59, hJ⟩ := hJ
    obtain ⟨u60, hJ⟩ := hJ
    obtain ⟨u61, hJ⟩ := hJ
    obtain ⟨u62, hJ⟩ := hJ
    obtain ⟨u63, hJ⟩ := hJ
    obtain ⟨u64, hJ⟩ := hJ
    obtain ⟨u65, hJ⟩ := hJ
    obtain ⟨u66, hJ⟩ := hJ
    obtain ⟨u67, hJ⟩ := hJ
    obtain ⟨u68, hJ⟩ := hJ
    obtain ⟨rfl, h6, hb⟩ := hJ
    go_wp2
    simp only [Exit.jump]
    go_ret
    rw [h6.out]
    exact ⟨rfl, hb⟩
  case first =>
    intro J' hJJ hrest
    have HJ := Lib.hid hJJ
    have HREST := Lib.hid hrest
    clear hJJ hrest
    cases hA : betw lim 0 1000000000000000 with
    | false =>
      have h6 := Lib.hid (HR6.out (by simp [rightT, hA]))
      have HA := Lib.hid hA
      clear hA
      go_wp2_with fail
      refine (between_is HA.out _).mono ?_
      rintro e w1 ⟨rfl, rfl⟩
      go_wp2
      go_step3
      exact ⟨rfl, HJ.out _ _ ⟨_, _, _, _, _, _, _, _, _, _, _, _, _, _, _, _, _, _, _, _, _, _, _, _, _, _, _, _, _, _, _, _, _, _, _, _, _, _, _, _, _, _, _, _, _, _, _, _, _, _, _, _, _, _, _, _, _, _, _, _, _, _, _, _, _, _, _, _, _, rfl, h6, hb0⟩⟩
    | true =>
      have HA := Lib.hid hA
      clear hA
      cases hB : betw ts.length 1 8 with
      | false =>
        have h6 := Lib.hid (HR6.out (by simp [rightT, hB]))
        rw [betw_no] at hB
        go_wp2_with fail
        refine (between_is HA.out _).mono ?_
        rintro e w1 ⟨rfl, rfl⟩
        by_cases hB1 : (ts.length : Int) < 1
        · have d1 : decide ((ts.length : Int) < 1) = true := by simpa using hB1
          clear hB hB1
          go_wp2
          go_step3
          exact ⟨rfl, HJ.out _ _ ⟨_, _, _, _, _, _, _, _, _, _, _, _, _, _, _, _, _, _, _, _, _, _, _, _, _, _, _, _, _, _, _, _, _, _, _, _, _, _, _, _, _, _, _, _, _, _, _, _, _, _, _, _, _, _, _, _, _, _, _, _, _, _, _, _, _, _, _, _, _, rfl, h6, hb0⟩⟩
        · have d1 : decide ((ts.length : Int) < 1) = false := by simpa using hB1
          have d2 : decide ((8 : Int) < (ts.length : Int)) = true := by simp; omega
          clear hB hB1
          go_wp2
          go_step3
          exact ⟨rfl, HJ.out _ _ ⟨_, _, _, _, _, _, _, _, _, _, _, _, _, _, _, _, _, _, _, _, _, _, _, _, _, _, _, _, _, _, _, _, _, _, _, _, _, _, _, _, _, _, _, _, _, _, _, _, _, _, _, _, _, _, _, _, _, _, _, _, _, _, _, _, _, _, _, _, _, rfl, h6, hb0⟩⟩
      | true =>
        have HB := Lib.hid hB
        rw [betw_iff] at hB
        have d1 : decide ((ts.length : Int) < 1) = false := by simp; omega
        have d2 : decide ((8 : Int) < (ts.length : Int)) = false := by simp; omega
        clear hB
        go_wp2_with fail
        refine (between_is HA.out _).mono ?_
        rintro e w1 ⟨rfl, rfl⟩
        go_wp2_with fail
        go_loopg [24] ts.length (fun g i wr => ∃ k : Nat, k + g = ts.length ∧ i = .int .i64 k ∧ Hid (∀ j, j < k → betw (ts.getD j (0, false)).1 0 10000000 = true) ∧ Below (w.alloc (.cells #[.int .i64 lim, .slice ao ts.length cap, .int .i64 cyc, .int .i64 dued, .int .i64 minf, .int .i64 minp, .int .i64 start] 34)).heap.size (w.alloc (.cells #[.int .i64 lim, .slice ao ts.length cap, .int .i64 cyc, .int .i64 dued, .int .i64 minf, .int .i64 minp, .int .i64 start] 34)) wr)
        case atStart => exact ⟨0, by omega, rfl, fun j hj => absurd hj (by omega), Below.refl _ _⟩
        case round =>
          obtain ⟨k, hkg, rfl, HN, hbr⟩ := hrel
          have hb : Below w.heap.size w wr := bl_tr hb0 hbr
          have hTr := hT.below hbr
          cases gk with
          | zero =>
            have hlt : ¬ ((k : Int) < (ts.length : Int)) := by omega
            have HC := Lib.hid (ratesT_yes fun j hj => HN.out j (by omega))
            obtain ⟨t0, t1, t2, t3, t4, t5, t6⟩ := hTr
            clear hT hb0 hbr
            cases hD : (betw cyc 1 28 && betw dued 1 25) with
            | false =>
              have h6 := Lib.hid (HR6.out (by simp only [rightT, hD]; simp))
              have key : decide (cyc < 1) = true ∨ (decide (cyc < 1) = false ∧ decide (28 < cyc) = true) ∨ (decide (cyc < 1) = false ∧ decide (28 < cyc) = false ∧ decide (dued < 1) = true) ∨ (decide (cyc < 1) = false ∧ decide (28 < cyc) = false ∧ decide (dued < 1) = false ∧ decide (25 < dued) = true) := by
                simp only [betw, Bool.and_eq_false_iff, decide_eq_false_iff_not, decide_eq_true_eq] at hD ⊢
                omega
              clear hD
              rcases key with d1 | ⟨d1, d2⟩ | ⟨d1, d2, d3⟩ | ⟨d1, d2, d3, d4⟩
              all_goals
                go_wp2
                go_step3
                exact ⟨rfl, HJ.out _ _ ⟨_, _, _, _, _, _, _, _, _, _, _, _, _, _, _, _, _, _, _, _, _, _, _, _, _, _, _, _, _, _, _, _, _, _, _, _, _, _, _, _, _, _, _, _, _, _, _, _, _, _, _, _, _, _, _, _, _, _, _, _, _, _, _, _, _, _, _, _, _, rfl, h6, hb⟩⟩
            | true =>
              have HD := Lib.hid hD
              have key : decide (cyc < 1) = false ∧ decide (28 < cyc) = false ∧ decide (dued < 1) = false ∧ decide (25 < dued) = false := by
                simp only [betw, Bool.and_eq_true, decide_eq_true_eq, decide_eq_false_iff_not] at hD ⊢
                omega
              obtain ⟨d1, d2, d3, d4⟩ := key
              clear hD
              cases hE : betw minf 0 1000000000000000 with
              | false =>
                have h6 := Lib.hid (HR6.out (by simp only [rightT, hE]; simp))
                have HE := Lib.hid hE
                clear hE
                go_wp2_with fail
                refine (between_is HE.out _).mono ?_
                rintro e w1 ⟨rfl, rfl⟩
                go_wp2
                go_step3
                go_step
                go_step
                exact HREST.out _ _ ⟨_, _, _, _, _, _, _, _, _, _, _, _, _, _, _, _, _, _, _, _, _, _, _, _, _, _, _, _, _, _, _, _, _, _, _, _, _, _, _, _, _, _, _, _, _, _, _, _, _, _, _, _, _, _, _, _, _, _, _, _, _, _, _, _, _, _, _, _, _, rfl, h6, hb⟩
              | true =>
                have HE := Lib.hid hE
                clear hE
                cases hF : betw minp 0 1000 with
                | false =>
                  have h6 := Lib.hid (HR6.out (by simp only [rightT, hF]; simp))
                  have HF := Lib.hid hF
                  clear hF
                  go_wp2_with fail
                  refine (between_is HE.out _).mono ?_
                  rintro e w1 ⟨rfl, rfl⟩
                  go_wp2_with fail
                  refine (between_is HF.out _).mono ?_
                  rintro e w1 ⟨rfl, rfl⟩
                  go_wp2
                  go_step3
                  go_step
                  go_step
                  exact HREST.out _ _ ⟨_, _, _, _, _, _, _, _, _, _, _, _, _, _, _, _, _, _, _, _, _, _, _, _, _, _, _, _, _, _, _, _, _, _, _, _, _, _, _, _, _, _, _, _, _, _, _, _, _, _, _, _, _, _, _, _, _, _, _, _, _, _, _, _, _, _, _, _, _, rfl, h6, hb⟩
                | true =>
                  have HF := Lib.hid hF
                  clear hF
                  cases hG : betw start (-135140) 2922896 with
                  | false =>
                    have h6 := Lib.hid (HR6.out (by simp only [rightT, hG]; simp))
                    have key : decide (-135140 ≤ start) = false ∨ (decide (-135140 ≤ start) = true ∧ decide (start ≤ 2922896) = false) := by
                      simp only [betw, Bool.and_eq_false_iff, decide_eq_false_iff_not, decide_eq_true_eq] at hG ⊢
                      omega
                    clear hG
                    rcases key with d5 | ⟨d5, d6⟩
                    all_goals
                      go_wp2_with fail
                      refine (between_is HE.out _).mono ?_
                      rintro e w1 ⟨rfl, rfl⟩
                      go_wp2_with fail
                      refine (between_is HF.out _).mono ?_
                      rintro e w1 ⟨rfl, rfl⟩
                      go_wp2
                      go_step3
                      go_step
                      go_step
                      exact HREST.out _ _ ⟨_, _, _, _, _, _, _, _, _, _, _, _, _, _, _, _, _, _, _, _, _, _, _, _, _, _, _, _, _, _, _, _, _, _, _, _, _, _, _, _, _, _, _, _, _, _, _, _, _, _, _, _, _, _, _, _, _, _, _, _, _, _, _, _, _, _, _, _, _, rfl, h6, hb⟩
                  | true =>
                    have h0 := Lib.hid (HR0.out (by simp only [rightT, HA.out, HB.out, HC.out, HD.out, HE.out, HF.out, hG]; rfl))
                    have key : decide (-135140 ≤ start) = true ∧ decide (start ≤ 2922896) = true := by
                      simp only [betw, Bool.and_eq_true, decide_eq_true_eq] at hG ⊢
                      omega
                    obtain ⟨d5, d6⟩ := key
                    clear hG
                    go_wp2_with fail
                    refine (between_is HE.out _).mono ?_
                    rintro e w1 ⟨rfl, rfl⟩
                    go_wp2_with fail
                    refine (between_is HF.out _).mono ?_
                    rintro e w1 ⟨rfl, rfl⟩
                    go_wp2
                    simp only [Exit.jump]
                    go_ret
                    rw [h0.out]
                    exact ⟨rfl, hb⟩
          | succ g =>
            have hlt : (k : Int) < (ts.length : Int) := by omega
            obtain ⟨b, o, x, gr, rfl, hc1, hc2, HX⟩ := (HV.out.below hb).get (i := k) (by omega)
            obtain ⟨t0, t1, t2, t3, t4, t5, t6⟩ := hTr
            clear hT hb0
            cases hD : betw x 0 10000000 with
            | false =>
              have h6 := Lib.hid (HR6.out (by simp only [rightT, ratesT_no (by omega) HX.out hD]; simp))
              have HD := Lib.hid hD
              clear hD
              go_wp2_with fail
              refine (between_is HD.out _).mono ?_
              rintro e w1 ⟨rfl, rfl⟩
              go_wp2
              go_step3
              exact ⟨rfl, HJ.out _ _ ⟨_, _, _, _, _, _, _, _, _, _, _, _, _, _, _, _, _, _, _, _, _, _, _, _, _, _, _, _, _, _, _, _, _, _, _, _, _, _, _, _, _, _, _, _, _, _, _, _, _, _, _, _, _, _, _, _, _, _, _, _, _, _, _, _, _, _, _, _, _, rfl, h6, (by repeat (first | with_reducible exact Below.refl _ _ | (with_reducible refine bl_sc ?_ ?hge; case hge => (first | exact Nat.le_refl _ | omega)) | with_reducible refine bl_al ?_ _ | with_reducible refine bl_dr ?_ | with_reducible refine bl_dN ?_ _ | (refine bl_tr ?_ (by assumption)) | (refine bl_gr ?_ (by assumption) (by first | exact Nat.le_refl _ | omega)) | exact Below.refl _ _ | refine bl_al ?_ _ | refine bl_dr ?_ | refine bl_dN ?_ _))⟩⟩
            | true =>
              have HD := Lib.hid hD
              clear hD
              go_wp2_with fail
              refine (between_is HD.out _).mono ?_
              rintro e w1 ⟨rfl, rfl⟩
              go_wp2
              go_roundg g
              case measure => omega
              case rel => exact ⟨k + 1, by omega, by go_num, fun j hj => by
                rcases Nat.lt_succ_iff_lt_or_eq.1 hj with h' | rfl
                · exact HN.out j h'
                · rw [HX.out]; exact HD.out, (by repeat (first | with_reducible exact Below.refl _ _ | (with_reducible refine bl_sc ?_ ?hge; case hge => (first | exact Nat.le_refl _ | omega)) | with_reducible refine bl_al ?_ _ | with_reducible refine bl_dr ?_ | with_reducible refine bl_dN ?_ _ | (refine bl_tr ?_ (by assumption)) | (refine bl_gr ?_ (by assumption) (by first | exact Nat.le_refl _ | omega)) | exact Below.refl _ _ | refine bl_al ?_ _ | refine bl_dr ?_ | refine bl_dN ?_ _))⟩
end Go.Proofs.Ytllblmoojohffaa
