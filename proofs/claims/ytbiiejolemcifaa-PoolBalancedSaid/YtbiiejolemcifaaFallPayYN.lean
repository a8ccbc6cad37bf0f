/- fall.Pay at what may be: how a payment goes into a position. -/
import Derived.Test.YtbiiejolemcifaaFallPayN
namespace Go.Proofs.Ytbiiejolemcifaa
open Go.RowKit

set_option maxRecDepth 100000 in
set_option maxHeartbeats 1600000 in
theorem fallPay_yes (ao : Option Addr) (n cap : Nat) (u : Value) (bal rates : List Int) (credit due amount : Int) (w : World) (hv : Sl .i64 w (.slice ao n cap) bal) (hu : Sl .i64 w u rates)
    (hl : rates.length = bal.length) (hb : Hid (bal.any badMoney = false)) (h3 : Hid (badMoney credit = false ∧ badMoney due = false ∧ badMoney amount = false)) (hn1 : bal.length ≤ 1000) :
    Calls Try.prog 45 #[.agg #[.slice ao n cap, .int .i64 credit, .int .i64 due], u, .int .i64 amount] w
      (Pay4N (addL (pay1 bal rates (min amount due)).1 (pay2 bal rates due amount).1, min amount due, (pay2 bal rates due amount).2, 0) w) := by
  have HV := Lib.hid hv
  have HU := Lib.hid hu
  obtain ⟨hn, hcc, hcm⟩ := hv.len
  obtain ⟨ao', cap', rfl, h1', ⟨h2', _⟩, h3'⟩ := hu
  clear h3' hv
  unfold maxLen at h2' hcm
  subst hn
  have d1 : ((rates.length : Int) != (bal.length : Int)) = false := by simp [hl]
  have HL := Lib.hid hl
  clear hl
  have hdue := badMoney_no h3.out.2.1
  have ham := badMoney_no h3.out.2.2
  obtain ⟨d, hd⟩ : ∃ d, min amount due = d := ⟨_, rfl⟩
  have hdr : 0 ≤ d ∧ d ≤ 1000000000000000 ∧ d ≤ amount := by omega
  have HD := Lib.hid hd
  have HA : Hid ([credit, due, amount].any badMoney = !true) := by
    show _ = _
    simp [h3.out.1, h3.out.2.1, h3.out.2.2]
  have HB : Hid (bal.any badMoney = !true) := hb
  have HBR : Hid (∀ x ∈ bal, 0 ≤ x ∧ x ≤ 1000000000000000) := bad_no hb.out
  -- the two spreads, by name
  obtain ⟨O, hO⟩ : ∃ O, (pay1 bal rates d).1 = O := ⟨_, rfl⟩
  obtain ⟨L1, hL1⟩ : ∃ L1, (pay1 bal rates d).2 = L1 := ⟨_, rfl⟩
  obtain ⟨M, hM⟩ : ∃ M, (pay2 bal rates due amount).1 = M := ⟨_, rfl⟩
  obtain ⟨L2, hL2⟩ : ∃ L2, (pay2 bal rates due amount).2 = L2 := ⟨_, rfl⟩
  have hOl : O.length = bal.length := by rw [← hO]; exact filled_length _ _ _
  have hMl : M.length = bal.length := by rw [← hM]; unfold pay2; rw [filled_length, payRest_length]
  have hL1r : 0 ≤ L1 ∧ L1 ≤ d := by rw [← hL1]; exact fill_left hdr.1 (fun x hx => (HBR.out x hx).1) _
  have HO2 : Hid (filled bal (rankL ltLow rates rates.length) d = (O, L1)) := by
    show _ = _
    rw [← hO, ← hL1]; rfl
  have HM2 : Hid (filled (subL bal O) (rankL ltHigh rates rates.length) (amount - d + L1) = (M, L2)) := by
    show _ = _
    rw [← hM, ← hL2]
    unfold pay2 payRest
    rw [hd, hO, hL1]
  have HOr : Hid (∀ j, j < bal.length → 0 ≤ O.getD j 0 ∧ O.getD j 0 ≤ bal.getD j 0) := by
    intro j hj
    rw [← hO]
    exact fill_range hdr.1 (fun x hx => (HBR.out x hx).1) _ j hj
  have HRR : Hid (∀ x ∈ subL bal O, 0 ≤ x ∧ x ≤ 1000000000000000) := by
    have := payRest_range (rates := rates) hdr.1 HBR.out
    unfold payRest at this
    rw [hO] at this
    exact this
  have hRl : (subL bal O).length = bal.length := by unfold subL; rw [List.length_zipWith]; omega
  have HMr : Hid (∀ j, j < bal.length → 0 ≤ M.getD j 0 ∧ M.getD j 0 ≤ (subL bal O).getD j 0) := by
    intro j hj
    rw [← hM]
    unfold pay2 payRest
    rw [hd, hO, hL1]
    exact fill_range (by omega) (fun x hx => (HRR.out x hx).1) _ j (by omega)
  rw [hd]
  have HF := Lib.hid (And.intro hOl (And.intro hMl hRl))
  clear hO hL1 hM hL2 hd hOl hMl hRl
  go_enter Try.func45, Try.ntmps45
  go_wp2_with fail
  refine (fallMay_any _ bal true HB _ (HV.out.alloc _)).mono ?_
  rintro e w1 ⟨rfl, rfl⟩
  go_wp2_with fail
  refine (fallMay_any _ [credit, due, amount] true HA _ (Sl.litAt _ _ [credit, due, amount] 3 _ rfl _ rfl (by decide) (by simp))).mono ?_
  rintro e w2 ⟨rfl, rfl⟩
  go_upto_region 4 with fail
  have ed : (if due < amount then due else amount) = d := by rw [← HD.out]; split <;> omega
  rw [ed]
  clear ed
  have HLR := Lib.hid (rank_range ltLow rates HL.out)
  have HHR := Lib.hid (rank_range ltHigh rates HL.out)
  have HX : Hid (rates.length ≤ 1000) := by show rates.length ≤ 1000; have := HL.out; omega
  have HLn : Hid ((rankL ltLow rates rates.length).length ≤ 1000) := by show _ ≤ 1000; rw [rankL_length]; exact HX.out
  have HHn : Hid ((rankL ltHigh rates rates.length).length ≤ 1000) := by show _ ≤ 1000; rw [rankL_length]; exact HX.out
  have f0 : ((w.alloc (.cells #[.slice ao bal.length cap, .int .i64 credit, .int .i64 due] 25)).alloc (.cells #[.int .i64 credit, .int .i64 due, .int .i64 amount] 2)).cell? ⟨w.heap.size, 0, none⟩ = some (.slice ao bal.length cap) := by simp [go_sem, World.cell?_alloc_past]
  have b0 : Below w.heap.size w ((w.alloc (.cells #[.slice ao bal.length cap, .int .i64 credit, .int .i64 due] 25)).alloc (.cells #[.int .i64 credit, .int .i64 due, .int .i64 amount] 2)) := (by repeat (first | with_reducible exact Below.refl _ _ | (with_reducible refine bl_sc ?_ ?hge; case hge => (first | exact Nat.le_refl _ | omega)) | with_reducible refine bl_al ?_ _ | with_reducible refine bl_dr ?_ | with_reducible refine bl_dN ?_ _ | (refine bl_tr ?_ (by assumption)) | (refine bl_gr ?_ (by assumption) (by first | exact Nat.le_refl _ | omega)) | exact Below.refl _ _ | refine bl_al ?_ _ | refine bl_dr ?_ | refine bl_dN ?_ _))
  have z0 : w.heap.size < ((w.alloc (.cells #[.slice ao bal.length cap, .int .i64 credit, .int .i64 due] 25)).alloc (.cells #[.int .i64 credit, .int .i64 due, .int .i64 amount] 2)).heap.size := by simp only [World.size_alloc]; omega
  generalize ((w.alloc (.cells #[.slice ao bal.length cap, .int .i64 credit, .int .i64 due] 25)).alloc (.cells #[.int .i64 credit, .int .i64 due, .int .i64 amount] 2)) = W0 at f0 b0 z0 ⊢
  go_region_held3 (fun w' => w'.cell? ⟨w.heap.size, 0, none⟩ = some (.slice ao bal.length cap)) (first | assumption | (simp [go_sem, f0]))
    (first
      | (go_at_call 68; refine (low_any _ rates _ (HU.out.below (by repeat (first | with_reducible exact Below.refl _ _ | (with_reducible refine bl_sc ?_ ?hge; case hge => (first | exact Nat.le_refl _ | omega)) | with_reducible refine bl_al ?_ _ | with_reducible refine bl_dr ?_ | with_reducible refine bl_dN ?_ _ | (refine bl_tr ?_ (by assumption)) | (refine bl_gr ?_ (by assumption) (by first | exact Nat.le_refl _ | omega)) | exact Below.refl _ _ | refine bl_al ?_ _ | refine bl_dr ?_ | refine bl_dN ?_ _))) HX.out).mono ?_; rintro e w3 ⟨u3, rfl, hs3, hb3⟩; have hc3 : w3.cell? ⟨w.heap.size, 0, none⟩ = some (.slice ao bal.length cap) := (hb3.cell (p := ⟨w.heap.size, 0, none⟩) z0).trans f0)
      | (go_at_call 67; refine (into_any _ _ bal (rankL ltLow rates rates.length) d _ (HV.out.below (by repeat (first | with_reducible exact Below.refl _ _ | (with_reducible refine bl_sc ?_ ?hge; case hge => (first | exact Nat.le_refl _ | omega)) | with_reducible refine bl_al ?_ _ | with_reducible refine bl_dr ?_ | with_reducible refine bl_dN ?_ _ | (refine bl_tr ?_ (by assumption)) | (refine bl_gr ?_ (by assumption) (by first | exact Nat.le_refl _ | omega)) | exact Below.refl _ _ | refine bl_al ?_ _ | refine bl_dr ?_ | refine bl_dN ?_ _))) hs3 hn1 HLn.out ⟨hdr.1, hdr.2.1⟩ HBR HLR).mono ?_; rintro e w4 ⟨u4, rfl, hown4, hb4⟩; have hc4 : w4.cell? ⟨w.heap.size, 0, none⟩ = some (.slice ao bal.length cap) := (hb4.cell (p := ⟨w.heap.size, 0, none⟩) (by have := hb3.size; exact Nat.lt_of_lt_of_le z0 this)).trans hc3))
  rw [HO2.out] at hown4 ⊢
  simp only at hown4 ⊢
  rw [HF.out.1] at hown4
  have hbw4 : Below w.heap.size w w4 := (by repeat (first | with_reducible exact Below.refl _ _ | (with_reducible refine bl_sc ?_ ?hge; case hge => (first | exact Nat.le_refl _ | omega)) | with_reducible refine bl_al ?_ _ | with_reducible refine bl_dr ?_ | with_reducible refine bl_dN ?_ _ | (refine bl_tr ?_ (by assumption)) | (refine bl_gr ?_ (by assumption) (by first | exact Nat.le_refl _ | omega)) | exact Below.refl _ _ | refine bl_al ?_ _ | refine bl_dr ?_ | refine bl_dN ?_ _))
  have hz4 := hb4.size
  have hz3 := hb3.size
  have hs4 : Sl .i64 w4 u4 O := Sl.of_own hown4 HF.out.1
  obtain ⟨ao4, cap4, rfl, hn4, hm4, hB4⟩ := own_block hown4
  have HC4 : Hid (ao4 = none → bal.length = 0 ∧ cap4 = 0) := hs4.none_cap
  clear hs4
  have HB4 : Hid (0 < bal.length → ∃ g, ao4 = some ⟨g, 0, none⟩ ∧ w.heap.size ≤ g ∧ Nums w4 g cap4 O) := fun h => by
    obtain ⟨g, h1, h2, cur, h5, h6, h7⟩ := hB4 h
    exact ⟨g, h1, by have := hbw4.size; have : w3.heap.size ≤ g := h2; have := b0.size; have : W0.heap.size ≤ w3.heap.size := hz3; omega, cur, h5, h6, by rw [HF.out.1]; exact h7⟩
  have HZ := Lib.hid (Nat.le_of_lt z0)
  clear hB4 hown4 hs3 hb3 hb4 hc3 hz3 hz4 b0 f0 z0
  go_wp2_with fail
  refine (clone64_any _ bal _ (HV.out.below hbw4) hn1).mono ?_
  rintro e w5 ⟨u5, rfl, hown5, hb5⟩
  have hbw5 : Below w.heap.size w w5 := (by repeat (first | with_reducible exact Below.refl _ _ | (with_reducible refine bl_sc ?_ ?hge; case hge => (first | exact Nat.le_refl _ | omega)) | with_reducible refine bl_al ?_ _ | with_reducible refine bl_dr ?_ | with_reducible refine bl_dN ?_ _ | (refine bl_tr ?_ (by assumption)) | (refine bl_gr ?_ (by assumption) (by first | exact Nat.le_refl _ | omega)) | exact Below.refl _ _ | refine bl_al ?_ _ | refine bl_dr ?_ | refine bl_dN ?_ _))
  have hz5 := hb5.size
  have hs5 : Sl .i64 w5 u5 bal := Sl.of_own hown5 rfl
  obtain ⟨ao5, cap5, rfl, hn5, hm5, hB5⟩ := own_block hown5
  have HC5 : Hid (ao5 = none → bal.length = 0 ∧ cap5 = 0) := hs5.none_cap
  clear hs5
  have HB5 : Hid (0 < bal.length → ∃ g, ao5 = some ⟨g, 0, none⟩ ∧ w4.heap.size ≤ g ∧ Nums w5 g cap5 bal) := fun h => by
    obtain ⟨g, h1, h2, cur, h5, h6, h7⟩ := hB5 h
    exact ⟨g, h1, h2, cur, h5, h6, h7⟩
  have HB4' : Hid (0 < bal.length → ∃ g, ao4 = some ⟨g, 0, none⟩ ∧ w.heap.size ≤ g ∧ g < w4.heap.size ∧ Nums w5 g cap4 O) := fun h => by
    obtain ⟨g, h1, h2, h3⟩ := HB4.out h
    exact ⟨g, h1, h2, h3.lt, h3.below hb5⟩
  have hz45 : w.heap.size ≤ w4.heap.size := hbw4.size
  clear hB5 hown5 HB4 hb5 hc4 hbw4
  go_wp2_with fail
  obtain ⟨g4, H4⟩ := pull HB4'.out
  obtain ⟨g5, H5⟩ := pull HB5.out
  have K4 := Lib.hid H4
  have K5 := Lib.hid H5
  clear H4 H5 HB4' HB5
  go_loopg [59] bal.length (fun gg i wr => ∃ k : Nat, k + gg = bal.length ∧ i = .int .i64 k ∧ Hid (0 < bal.length → Nums wr g5 cap5 (mixL (subL bal O) bal k) ∧ Nums wr g4 cap4 O) ∧ Below w.heap.size w wr)
  case atStart => exact ⟨0, by omega, rfl, fun h => ⟨by rw [mixL_zero]; exact (K5.out h).2.2, (K4.out h).2.2.2⟩, hbw5⟩
  case round =>
    obtain ⟨k, hkg, rfl, HN, hb⟩ := hrel
    cases gk with
    | succ gg =>
      have hlt : (k : Int) < (bal.length : Int) := by omega
      have hkn : k < bal.length := by omega
      have hp : 0 < bal.length := by omega
      obtain ⟨rfl, hw4, hl4, _⟩ := K4.out hp
      obtain ⟨rfl, hw5, _⟩ := K5.out hp
      obtain ⟨N5, N4⟩ := HN.out hp
      have hml := mixL_length (k := k) HF.out.2.2 rfl (Nat.le_of_lt hkn)
      have c5 := N5.cell (i := k) (by omega)
      rw [mixL_get HF.out.2.2 rfl hkn] at c5
      have c4 := N4.cell (i := k) (by have := HF.out.1; omega)
      have f5 := N5.frozen k
      have hsub := getD_subL hkn (show k < O.length by have := HF.out.1; omega)
      have hor := HOr.out k hkn
      have hbal := HBR.out bal[k] (List.getElem_mem hkn)
      have e1 : bal[k] = bal.getD k 0 := by simp [List.getD, hkn]
      rw [e1] at hbal
      generalize bal.getD k 0 = x at c5 hsub hor hbal
      generalize O.getD k 0 = y at c4 hsub hor
      have HS := Lib.hid hsub
      have X := Lib.hid (And.intro N5 N4)
      clear hsub N5 N4 hml e1
      go_wp2_with fail
      go_roundg gg
      case measure => omega
      case rel =>
        obtain ⟨N5, N4⟩ := X.out
        refine ⟨k + 1, by omega, by go_num, fun h => ⟨?_, N4.setOther (by omega) _ _⟩, hb.setCell (show w.heap.size ≤ g5 by omega) _⟩
        have e := mixL_set HF.out.2.2 rfl hkn
        rw [HS.out] at e
        rw [← e]
        exact N5.set k (x - y)
    | zero =>
      have hlt : ¬ ((k : Int) < (bal.length : Int)) := by omega
      obtain rfl : k = bal.length := by omega
      obtain ⟨w6, hw6⟩ : ∃ w6 : World, w6 = wr := ⟨_, rfl⟩
      subst hw6
      have HN6 : Hid (0 < bal.length → Nums w6 g5 cap5 (subL bal O) ∧ Nums w6 g4 cap4 O) := fun h => by
        have := HN.out h
        rwa [mixL_all HF.out.2.2 rfl] at this
      have HR6 : Hid (Sl .i64 w6 (.slice ao5 bal.length cap5) (subL bal O)) := by
        by_cases h : 0 < bal.length
        · obtain ⟨h1, _, _⟩ := K5.out h
          rw [h1]
          exact (HN6.out h).1.sl HF.out.2.2 hn5 hm5
        · exact sl_empty HF.out.2.2 (by omega) hm5 (fun e => (HC5.out e).2)
      clear HN
      go_wp2_with fail
      refine (high_any _ rates _ (HU.out.below hb) HX.out).mono ?_
      rintro e w7 ⟨u7, rfl, hs7, hb7⟩
      have hwr1 : 0 ≤ amount - d + L1 ∧ amount - d + L1 ≤ 1000000000000000 := by omega
      go_wp2_with fail
      refine (into_any _ _ (subL bal O) (rankL ltHigh rates rates.length) (amount - d + L1) _ (HR6.out.below hb7) hs7 (by rw [HF.out.2.2]; exact hn1) HHn.out hwr1 HRR (Lib.hid fun i hi => by rw [HF.out.2.2]; exact HHR.out i hi)).mono ?_
      rintro e w8 ⟨u8, rfl, hown8, hb8⟩
      rw [HM2.out] at hown8 ⊢
      simp only at hown8 ⊢
      rw [HF.out.2.1] at hown8
      have hbw8 : Below w.heap.size w w8 := (by repeat (first | with_reducible exact Below.refl _ _ | (with_reducible refine bl_sc ?_ ?hge; case hge => (first | exact Nat.le_refl _ | omega)) | with_reducible refine bl_al ?_ _ | with_reducible refine bl_dr ?_ | with_reducible refine bl_dN ?_ _ | (refine bl_tr ?_ (by assumption)) | (refine bl_gr ?_ (by assumption) (by first | exact Nat.le_refl _ | omega)) | exact Below.refl _ _ | refine bl_al ?_ _ | refine bl_dr ?_ | refine bl_dN ?_ _))
      have hb68 : Below w6.heap.size w6 w8 := bl_tr hb7 hb8
      obtain ⟨ao8, cap8, rfl, hn8, hm8, hB8⟩ := own_block hown8
      have HB8 : Hid (0 < bal.length → ∃ g, ao8 = some ⟨g, 0, none⟩ ∧ w7.heap.size ≤ g ∧ Nums w8 g cap8 M) := fun h => by
        obtain ⟨g, h1, h2, cur, h5, h6, h7⟩ := hB8 h
        exact ⟨g, h1, h2, cur, h5, h6, by rw [HF.out.2.1]; exact h7⟩
      obtain ⟨g8, H8⟩ := pull HB8.out
      have K8 := Lib.hid H8
      have K4' : Hid (0 < bal.length → ao4 = some ⟨g4, 0, none⟩ ∧ w.heap.size ≤ g4 ∧ g4 < w7.heap.size ∧ Nums w8 g4 cap4 O) := fun h => by
        obtain ⟨h1, h2, h3, _⟩ := K4.out h
        have hN := (HN6.out h).2
        exact ⟨h1, h2, Nat.lt_of_lt_of_le hN.lt hb7.size, hN.below hb68⟩
      clear H8 hB8 hown8 HB8 hb7 hb8 hb68 hb hbw5 hs7
      go_wp2_with fail
      have hAl : (addL O M).length = bal.length := by unfold addL; rw [List.length_zipWith]; have := HF.out; omega
      have HAl := Lib.hid hAl
      have HRES : Hid (addL (pay1 bal rates d).1 (pay2 bal rates due amount).1 = addL O M ∧ (pay2 bal rates due amount).2 = L2) := by
        have e1 : (pay1 bal rates d).1 = O := congrArg Prod.fst HO2.out
        have e2 : pay2 bal rates due amount = (M, L2) := by
          unfold pay2 payRest
          rw [HD.out, e1, show (pay1 bal rates d).2 = L1 from congrArg Prod.snd HO2.out]
          exact HM2.out
        rw [e1, e2]
        exact ⟨rfl, rfl⟩
      clear hAl
      go_loopg [86] bal.length (fun gg i wr => ∃ k : Nat, k + gg = bal.length ∧ i = .int .i64 k ∧ Hid (0 < bal.length → Nums wr g4 cap4 (mixL (addL O M) O k) ∧ Nums wr g8 cap8 M) ∧ Below w.heap.size w wr)
      case atStart => exact ⟨0, by omega, rfl, fun h => ⟨by rw [mixL_zero]; exact (K4'.out h).2.2.2, (K8.out h).2.2⟩, hbw8⟩
      case round =>
        obtain ⟨k, hkg, rfl, HN, hb⟩ := hrel
        cases gk with
        | succ gg =>
          have hlt : (k : Int) < (bal.length : Int) := by omega
          have hkn : k < bal.length := by omega
          have hp : 0 < bal.length := by omega
          obtain ⟨rfl, hg4, hl4, _⟩ := K4'.out hp
          obtain ⟨rfl, hg8, _⟩ := K8.out hp
          obtain ⟨N4, N8⟩ := HN.out hp
          have hml := mixL_length (k := k) HAl.out HF.out.1 (Nat.le_of_lt hkn)
          have c4 := N4.cell (i := k) (by omega)
          rw [mixL_get HAl.out HF.out.1 hkn] at c4
          have c8 := N8.cell (i := k) (by have := HF.out.2.1; omega)
          have f4 := N4.frozen k
          have hadd := getD_addL (show k < O.length by have := HF.out.1; omega) (show k < M.length by have := HF.out.2.1; omega)
          have hor := HOr.out k hkn
          have hmr := HMr.out k hkn
          rw [getD_subL hkn (show k < O.length by have := HF.out.1; omega)] at hmr
          have hbal := HBR.out bal[k] (List.getElem_mem hkn)
          have e1 : bal[k] = bal.getD k 0 := by simp [List.getD, hkn]
          rw [e1] at hbal
          clear e1
          generalize bal.getD k 0 = x at hor hbal hmr
          generalize O.getD k 0 = y at c4 hadd hor hmr
          generalize M.getD k 0 = z at c8 hadd hmr
          have HS := Lib.hid hadd
          have X := Lib.hid (And.intro N4 N8)
          clear hadd N4 N8 hml
          go_wp2_with fail
          go_roundg gg
          case measure => omega
          case rel =>
            obtain ⟨N4, N8⟩ := X.out
            refine ⟨k + 1, by omega, by go_num, fun h => ⟨?_, N8.setOther (by omega) _ _⟩, hb.setCell (show w.heap.size ≤ g4 by omega) _⟩
            have e := mixL_set HAl.out HF.out.1 hkn
            rw [HS.out] at e
            rw [← e]
            exact N4.set k (y + z)
        | zero =>
          have hlt : ¬ ((k : Int) < (bal.length : Int)) := by omega
          obtain rfl : k = bal.length := by omega
          have HR : Hid (Sl .i64 wr (.slice ao4 bal.length cap4) (addL O M)) := by
            by_cases h : 0 < bal.length
            · obtain ⟨h1, _, _⟩ := K4'.out h
              rw [h1]
              have h2 := (HN.out h).1
              rw [mixL_all HAl.out HF.out.1] at h2
              exact h2.sl HAl.out hn4 hm4
            · exact sl_empty HAl.out (by omega) hm4 (fun e => (HC4.out e).2)
          clear HN
          go_wp2_with fail
          refine bodyPost_ret (results_tmp4 rfl _ _ _) rfl ?_
          rw [HRES.out.1, HRES.out.2]
          exact ⟨_, rfl, ⟨HR.out, fr_of fun h => ⟨(K4'.out h).1, (K4'.out h).2.1⟩⟩, hb⟩

theorem fallPay_any (v u : Value) (bal rates : List Int) (credit due amount : Int) (r : List Int × Int × Int × Int) (hr : Hid (payR bal credit due rates amount = r)) (w : World) (hv : Sl .i64 w v bal) (hu : Sl .i64 w u rates) (hn : bal.length ≤ 1000) :
    Calls Try.prog 45 #[.agg #[v, .int .i64 credit, .int .i64 due], u, .int .i64 amount] w (Pay4N r w) := by
  have hv' := hv
  obtain ⟨ao, cap, rfl, _⟩ := hv'
  rw [← hr.out]
  cases h : (rates.length == bal.length && !bal.any badMoney && !badMoney credit && !badMoney due && !badMoney amount) with
  | false =>
    have e : payR bal credit due rates amount = ([], 0, 0, 1) := by simp only [payR, h]; rfl
    rw [e]
    exact fallPay_no ao _ cap u bal rates credit due amount w hv hu h
  | true =>
    have e : payR bal credit due rates amount = (addL (pay1 bal rates (min amount due)).1 (pay2 bal rates due amount).1, min amount due, (pay2 bal rates due amount).2, 0) := by simp only [payR, h]; rfl
    rw [e]
    simp only [Bool.and_eq_true, beq_iff_eq, Bool.not_eq_true'] at h
    exact fallPay_yes ao _ cap u bal rates credit due amount w hv hu h.1.1.1.1 (Lib.hid h.1.1.1.2) (Lib.hid ⟨h.1.1.2, h.1.2, h.2⟩) hn
end Go.Proofs.Ytbiiejolemcifaa
