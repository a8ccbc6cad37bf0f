/- lombardref10.Pay: how a payment goes into a position, or why not, as the document says it. -/
import Derived.Test.YtbiiejolemcifaaFallPayYN
import Derived.Test.YtbiiejolemcifaaRefFall
import Derived.Test.YtbiiejolemcifaaRefRank
import Derived.Test.YtbiiejolemcifaaRankLaws
import Derived.Deep.RegionHeld3
import Derived.Deep.DeepCutAuto
import Derived.Deep.CutBlock
import Derived.BigRegion
namespace Go.Proofs.Ytbiiejolemcifaa
open Go.RowKit

theorem ltOf_f : ltOf false = ltLow := by funext x y; simp [ltOf, ltLow]
theorem ltOf_t : ltOf true = ltHigh := by funext x y; simp [ltOf, ltHigh]
theorem ordT_of {ks : List Int} {n : Nat} (h : ∀ i, i < ks.length → 1 ≤ ks.getD i 0 ∧ ks.getD i 0 ≤ n) (hd : ks.Nodup) (i : Nat) (hi : i ≤ ks.length) : ordT ks n i = true := by
  induction i with
  | zero => rfl
  | succ i ih =>
    have h1 := h i (by omega)
    have h2 := take_not_mem hd (show i < ks.length by omega)
    simp only [ordT, ih (by omega), h2, decide_eq_true h1.1, decide_eq_true h1.2]
    rfl
theorem ord_rank (lt : Int → Int → Bool) (xs : List Int) {n : Nat} (hn : xs.length = n) : ordB (rankL lt xs xs.length) n = true :=
  ordT_of (rank_range lt xs hn) (rankL_nodup _ _ _) _ (Nat.le_refl _)
theorem into_ok {bal ks : List Int} {a : Int} (h1 : ordB ks bal.length = true) (h2 : ∀ x ∈ bal, 0 ≤ x ∧ x ≤ 1000000000000000) (h3 : 0 ≤ a ∧ a ≤ 1000000000000000) : intoR bal ks a = ((filled bal ks a).1, (filled bal ks a).2, 0) := by
  have e1 : bal.any badMoney = false := by
    rw [List.any_eq_false]
    intro x hx
    have := h2 x hx
    simp [badMoney]
    omega
  have e2 : badMoney a = false := by simp [badMoney]; omega
  simp only [intoR, h1, e1, e2]
  rfl
def ok0 (bal : List Int) (credit due : Int) (rates : List Int) (amount : Int) : Bool := rates.length == bal.length && !badMoney credit && !badMoney due && !badMoney amount
theorem payR_of {bal : List Int} {credit due : Int} {rates : List Int} {amount : Int} : payR bal credit due rates amount = if (ok0 bal credit due rates amount && !bal.any badMoney) = true then (addL (pay1 bal rates (min amount due)).1 (pay2 bal rates due amount).1, min amount due, (pay2 bal rates due amount).2, 0) else ([], 0, 0, 1) := by
  unfold payR ok0
  congr 1
  cases (rates.length == bal.length) <;> cases bal.any badMoney <;> cases badMoney credit <;> cases badMoney due <;> cases badMoney amount <;> rfl

set_option maxRecDepth 100000 in
set_option maxHeartbeats 1600000 in
theorem refPay_any (v u : Value) (bal rates : List Int) (credit due amount : Int) (r : List Int × Int × Int × Int) (hr : Hid (payR bal credit due rates amount = r)) (w : World) (hv : Sl .i64 w v bal) (hu : Sl .i64 w u rates) (hn1 : bal.length ≤ 1000) :
    Calls Try.prog 51 #[.agg #[v, .int .i64 credit, .int .i64 due], u, .int .i64 amount] w (Pay4N r w) := by
  have HV := Lib.hid hv
  have HU := Lib.hid hu
  obtain ⟨ao, cap, rfl, hcc, ⟨hcm, _⟩, _⟩ := hv
  obtain ⟨ao', cap', rfl, h1', ⟨h2', _⟩, _⟩ := hu
  unfold maxLen at h2' hcm
  obtain ⟨i0, hi, hz0, hz1, hz2⟩ := info_parts info_fall
  have f0 : (w.alloc (.cells #[.slice ao bal.length cap, .int .i64 credit, .int .i64 due] 25)).cell? ⟨w.heap.size, 0, none⟩ = some (.slice ao bal.length cap) := by simp [go_sem]
  have f1 : (w.alloc (.cells #[.slice ao bal.length cap, .int .i64 credit, .int .i64 due] 25)).cell? ⟨w.heap.size, 1, none⟩ = some (.int .i64 credit) := by simp [go_sem]
  have f2 : (w.alloc (.cells #[.slice ao bal.length cap, .int .i64 credit, .int .i64 due] 25)).cell? ⟨w.heap.size, 2, none⟩ = some (.int .i64 due) := by simp [go_sem]
  have b0 : Below w.heap.size w (w.alloc (.cells #[.slice ao bal.length cap, .int .i64 credit, .int .i64 due] 25)) := (by repeat (first | with_reducible exact Below.refl _ _ | (with_reducible refine bl_sc ?_ ?hge; case hge => (first | exact Nat.le_refl _ | omega)) | with_reducible refine bl_al ?_ _ | with_reducible refine bl_dr ?_ | with_reducible refine bl_dN ?_ _ | (refine bl_tr ?_ (by assumption)) | (refine bl_gr ?_ (by assumption) (by first | exact Nat.le_refl _ | omega)) | exact Below.refl _ _ | refine bl_al ?_ _ | refine bl_dr ?_ | refine bl_dN ?_ _))
  have z0 : w.heap.size < (w.alloc (.cells #[.slice ao bal.length cap, .int .i64 credit, .int .i64 due] 25)).heap.size := by simp only [World.size_alloc]; omega
  go_enter Try.func51, Try.ntmps51
  go_upto_region 1 with fail
  generalize (w.alloc (.cells #[.slice ao bal.length cap, .int .i64 credit, .int .i64 due] 25)) = W0 at f0 f1 f2 b0 z0 ⊢
  go_cut [10] (fun s wr => s = .bool (ok0 bal credit due rates amount) ∧ W0 = wr)
  case first =>
    by_cases hl : rates.length = bal.length
    · have d1 : ((rates.length : Int) == (bal.length : Int)) = true := by simp [hl]
      have HL := Lib.hid hl
      clear hl
      cases h1 : badMoney credit with
      | true =>
        have HK : Hid (ok0 bal credit due rates amount = false) := by show _ = _; simp only [ok0, h1]; simp
        have hm := refMay_any credit false (Lib.hid h1) W0
        clear h1
        go_wp2_with (go_at_call 72; refine hm.mono ?_; rintro e w' ⟨rfl, rfl⟩)
        go_meet
        case rel => exact ⟨by rw [HK.out], rfl⟩
      | false =>
        have hm1 := refMay_any credit true (Lib.hid h1) W0
        cases h2 : badMoney due with
        | true =>
          have HK : Hid (ok0 bal credit due rates amount = false) := by show _ = _; simp only [ok0, h2]; simp
          have hm := refMay_any due false (Lib.hid h2) W0
          clear h1 h2
          go_wp2_with fail
          refine hm1.mono ?_
          rintro e w' ⟨rfl, rfl⟩
          go_wp2_with fail
          refine hm.mono ?_
          rintro e w' ⟨rfl, rfl⟩
          go_wp2_with fail
          go_meet
          case rel => exact ⟨by rw [HK.out], rfl⟩
        | false =>
          have hm2 := refMay_any due true (Lib.hid h2) W0
          cases h3 : badMoney amount with
          | true =>
            have HK : Hid (ok0 bal credit due rates amount = false) := by show _ = _; simp only [ok0, h3]; simp
            have hm := refMay_any amount false (Lib.hid h3) W0
            clear h1 h2 h3
            go_wp2_with fail
            refine hm1.mono ?_
            rintro e w' ⟨rfl, rfl⟩
            go_wp2_with fail
            refine hm2.mono ?_
            rintro e w' ⟨rfl, rfl⟩
            go_wp2_with fail
            refine hm.mono ?_
            rintro e w' ⟨rfl, rfl⟩
            go_wp2_with fail
            go_meet
            case rel => exact ⟨by rw [HK.out], rfl⟩
          | false =>
            have HK : Hid (ok0 bal credit due rates amount = true) := by show _ = _; have := HL.out; simp only [ok0, h1, h2, h3, this]; simp
            have hm := refMay_any amount true (Lib.hid h3) W0
            clear h1 h2 h3
            go_wp2_with fail
            refine hm1.mono ?_
            rintro e w' ⟨rfl, rfl⟩
            go_wp2_with fail
            refine hm2.mono ?_
            rintro e w' ⟨rfl, rfl⟩
            go_wp2_with fail
            refine hm.mono ?_
            rintro e w' ⟨rfl, rfl⟩
            go_wp2_with fail
            go_meet
            case rel => exact ⟨by rw [HK.out], rfl⟩
    · have d1 : ((rates.length : Int) == (bal.length : Int)) = false := by simp; omega
      have HK : Hid (ok0 bal credit due rates amount = false) := by show _ = _; simp only [ok0, show (rates.length == bal.length) = false by simpa using hl]; simp
      clear hl
      go_wp2_with fail
      go_meet
      case rel => exact ⟨by rw [HK.out], rfl⟩
  case rest =>
    obtain ⟨hs, hw0⟩ := hcut
    subst hs
    subst hw0
    go_wp2_with fail
    go_loopg [10, 11] bal.length (fun gg s i wr => ∃ k : Nat, k + gg = bal.length ∧ i = .int .i64 k ∧ (∃ ok, s = .bool ok ∧ Hid (ok = (ok0 bal credit due rates amount && !(bal.take k).any badMoney))) ∧ W0 = wr)
    case atStart => exact ⟨0, by omega, rfl, ⟨_, rfl, by show _ = _; simp⟩, rfl⟩
    case round =>
      obtain ⟨k, hkg, rfl, ⟨ok, rfl, HK⟩, rfl⟩ := hrel
      cases gk with
      | succ gg =>
        have hlt : (k : Int) < (bal.length : Int) := by omega
        have hkn : k < bal.length := by omega
        have et : bal.take (k + 1) = bal.take k ++ [bal.getD k 0] := by rw [List.take_succ_eq_append_getElem hkn]; simp [List.getD, hkn]
        have HT := Lib.hid et
        clear et
        cases ok with
        | false =>
          go_wp2_with fail
          go_roundg gg
          case measure => omega
          case rel => exact ⟨k + 1, by omega, by go_num, ⟨false, rfl, by
            show _ = _
            have h := HK.out
            rw [HT.out, List.any_append]
            revert h
            cases ok0 bal credit due rates amount <;> cases (bal.take k).any badMoney <;> simp⟩, rfl⟩
        | true =>
          obtain ⟨b, o, x, rfl, hcell, hx⟩ := (HV.out.below b0).get (i := k) hkn
          cases hbx : badMoney x with
          | true =>
            have hm := refMay_any x false (Lib.hid hbx) W0
            have HBX := Lib.hid hbx
            clear hbx
            go_wp2_with (go_at_call 72; refine hm.mono ?_; rintro e w' ⟨rfl, rfl⟩)
            go_roundg gg
            case measure => omega
            case rel => exact ⟨k + 1, by omega, by go_num, ⟨false, rfl, by
              show _ = _
              rw [HT.out, List.any_append, hx.out]
              simp [HBX.out]⟩, rfl⟩
          | false =>
            have hm := refMay_any x true (Lib.hid hbx) W0
            have HBX := Lib.hid hbx
            clear hbx
            go_wp2_with (go_at_call 72; refine hm.mono ?_; rintro e w' ⟨rfl, rfl⟩)
            go_roundg gg
            case measure => omega
            case rel => exact ⟨k + 1, by omega, by go_num, ⟨true, rfl, by
              show _ = _
              rw [HT.out, List.any_append, hx.out, HK.out]
              simp [HBX.out]⟩, rfl⟩
      | zero =>
        have hlt : ¬ ((k : Int) < (bal.length : Int)) := by omega
        obtain rfl : k = bal.length := by omega
        have hk := HK.out
        rw [List.take_length] at hk
        cases ok with
        | false =>
          obtain rfl : r = ([], 0, 0, 1) := by rw [← hr.out, payR_of, ← hk]; rfl
          clear hk
          go_wp2_with fail
          refine bodyPost_ret (results_tmp4 rfl _ _ _) rfl ?_
          exact ⟨_, rfl, ⟨sl_nil _ _, fr_nil⟩, b0⟩
        | true =>
          have HR : Hid (r = (addL (pay1 bal rates (min amount due)).1 (pay2 bal rates due amount).1, min amount due, (pay2 bal rates due amount).2, 0)) := by show _ = _; rw [← hr.out, payR_of, ← hk]; rfl
          have hok : ok0 bal credit due rates amount = true ∧ bal.any badMoney = false := by
            revert hk
            cases ok0 bal credit due rates amount <;> cases bal.any badMoney <;> decide
          have hb := hok.2
          have hok := hok.1
          simp only [ok0, Bool.and_eq_true, beq_iff_eq, Bool.not_eq_true'] at hok
          obtain ⟨⟨⟨hl, hcr⟩, hdu⟩, ham⟩ := hok
          have HL := Lib.hid hl
          have hdue := badMoney_no hdu
          have ham := badMoney_no ham
          obtain ⟨d, hd⟩ : ∃ d, min amount due = d := ⟨_, rfl⟩
          have hdr : 0 ≤ d ∧ d ≤ 1000000000000000 ∧ d ≤ amount := by omega
          have HD := Lib.hid hd
          have HBR : Hid (∀ x ∈ bal, 0 ≤ x ∧ x ≤ 1000000000000000) := bad_no hb
          obtain ⟨O, hO⟩ : ∃ O, (pay1 bal rates d).1 = O := ⟨_, rfl⟩
          obtain ⟨L1, hL1⟩ : ∃ L1, (pay1 bal rates d).2 = L1 := ⟨_, rfl⟩
          obtain ⟨M, hM⟩ : ∃ M, (pay2 bal rates due amount).1 = M := ⟨_, rfl⟩
          obtain ⟨L2, hL2⟩ : ∃ L2, (pay2 bal rates due amount).2 = L2 := ⟨_, rfl⟩
          have hOl : O.length = bal.length := by rw [← hO]; exact filled_length _ _ _
          have hMl : M.length = bal.length := by rw [← hM]; unfold pay2; rw [filled_length, payRest_length]
          have hL1r : 0 ≤ L1 ∧ L1 ≤ d := by rw [← hL1]; exact fill_left hdr.1 (fun x hx => (HBR.out x hx).1) _
          have HO2 : Hid (filled bal (rankL ltLow rates rates.length) d = (O, L1)) := by
            show _ = _
            rw [← hO, ← hL1]; rfl
          have HM2 : Hid (filled (subL bal O) (rankL ltHigh rates rates.length) (amount - d + L1) = (M, L2)) := by
            show _ = _
            rw [← hM, ← hL2]
            unfold pay2 payRest
            rw [hd, hO, hL1]
          have HOr : Hid (∀ j, j < bal.length → 0 ≤ O.getD j 0 ∧ O.getD j 0 ≤ bal.getD j 0) := by
            intro j hj
            rw [← hO]
            exact fill_range hdr.1 (fun x hx => (HBR.out x hx).1) _ j hj
          have HRR : Hid (∀ x ∈ subL bal O, 0 ≤ x ∧ x ≤ 1000000000000000) := by
            have := payRest_range (rates := rates) hdr.1 HBR.out
            unfold payRest at this
            rw [hO] at this
            exact this
          have hRl : (subL bal O).length = bal.length := by unfold subL; rw [List.length_zipWith]; omega
          have HMr : Hid (∀ j, j < bal.length → 0 ≤ M.getD j 0 ∧ M.getD j 0 ≤ (subL bal O).getD j 0) := by
            intro j hj
            rw [← hM]
            unfold pay2 payRest
            rw [hd, hO, hL1]
            exact fill_range (by omega) (fun x hx => (HRR.out x hx).1) _ j (by omega)
          have HR2 : Hid (r = (addL O M, d, L2, 0)) := by show _ = _; rw [HR.out, hd, hO, hM, hL2]
          have HF := Lib.hid (And.intro hOl (And.intro hMl hRl))
          have HI1 : Hid (intoR bal (rankL ltLow rates rates.length) d = (O, L1, 0)) := by
            show _ = _
            rw [into_ok (ord_rank _ _ hl) HBR.out ⟨hdr.1, hdr.2.1⟩, HO2.out]
          have HI2 : Hid (intoR (subL bal O) (rankL ltHigh rates rates.length) (amount - d + L1) = (M, L2, 0)) := by
            show _ = _
            rw [into_ok (ord_rank _ _ (by rw [hRl]; exact hl)) HRR.out (by omega), HM2.out]
          have HX : Hid (rates.length ≤ 1000) := by show rates.length ≤ 1000; omega
          have HLn : Hid ((rankL ltLow rates rates.length).length ≤ 1000) := by show _ ≤ 1000; rw [rankL_length]; exact HX.out
          have HHn : Hid ((rankL ltHigh rates rates.length).length ≤ 1000) := by show _ ≤ 1000; rw [rankL_length]; exact HX.out
          clear hO hL1 hM hL2 hd hOl hMl hRl hk hl hcr hdu hb HO2 HM2 HR
          go_upto_region 9 with fail
          have ed : (if due < amount then due else amount) = d := by rw [← HD.out]; split <;> omega
          rw [ed]
          clear ed
          go_region_held3 (fun w' => w'.cell? ⟨w.heap.size, 0, none⟩ = some (.slice ao bal.length cap)) (first | assumption | (simp [go_sem, f0]))
            (first
              | (go_at_call 73; refine (refLow_any _ rates _ (HU.out.below (by repeat (first | with_reducible exact Below.refl _ _ | (with_reducible refine bl_sc ?_ ?hge; case hge => (first | exact Nat.le_refl _ | omega)) | with_reducible refine bl_al ?_ _ | with_reducible refine bl_dr ?_ | with_reducible refine bl_dN ?_ _ | (refine bl_tr ?_ (by assumption)) | (refine bl_gr ?_ (by assumption) (by first | exact Nat.le_refl _ | omega)) | exact Below.refl _ _ | refine bl_al ?_ _ | refine bl_dr ?_ | refine bl_dN ?_ _))) HX.out).mono ?_; rintro e w3 ⟨u3, rfl, hs3, hb3⟩; rw [ltOf_f] at hs3; have hc3 : w3.cell? ⟨w.heap.size, 0, none⟩ = some (.slice ao bal.length cap) := (hb3.cell (p := ⟨w.heap.size, 0, none⟩) z0).trans f0)
              | (go_at_call 53; refine (refInto_any _ _ bal (rankL ltLow rates rates.length) d _ HI1 _ (HV.out.below (by repeat (first | with_reducible exact Below.refl _ _ | (with_reducible refine bl_sc ?_ ?hge; case hge => (first | exact Nat.le_refl _ | omega)) | with_reducible refine bl_al ?_ _ | with_reducible refine bl_dr ?_ | with_reducible refine bl_dN ?_ _ | (refine bl_tr ?_ (by assumption)) | (refine bl_gr ?_ (by assumption) (by first | exact Nat.le_refl _ | omega)) | exact Below.refl _ _ | refine bl_al ?_ _ | refine bl_dr ?_ | refine bl_dN ?_ _))) hs3 hn1 HLn.out).mono ?_; rintro e w4 ⟨u4, rfl, hown4, hb4⟩; have hc4 : w4.cell? ⟨w.heap.size, 0, none⟩ = some (.slice ao bal.length cap) := (hb4.cell (p := ⟨w.heap.size, 0, none⟩) (by have := hb3.size; exact Nat.lt_of_lt_of_le z0 this)).trans hc3))
          rw [HF.out.1] at hown4
          have hbw4 : Below w.heap.size w w4 := (by repeat (first | with_reducible exact Below.refl _ _ | (with_reducible refine bl_sc ?_ ?hge; case hge => (first | exact Nat.le_refl _ | omega)) | with_reducible refine bl_al ?_ _ | with_reducible refine bl_dr ?_ | with_reducible refine bl_dN ?_ _ | (refine bl_tr ?_ (by assumption)) | (refine bl_gr ?_ (by assumption) (by first | exact Nat.le_refl _ | omega)) | exact Below.refl _ _ | refine bl_al ?_ _ | refine bl_dr ?_ | refine bl_dN ?_ _))
          have hz3 := hb3.size
          have hs4 : Sl .i64 w4 u4 O := Sl.of_own hown4 HF.out.1
          obtain ⟨ao4, cap4, rfl, hn4, hm4, hB4⟩ := own_block hown4
          have HC4 : Hid (ao4 = none → bal.length = 0 ∧ cap4 = 0) := hs4.none_cap
          have HB4 : Hid (0 < bal.length → ∃ g, ao4 = some ⟨g, 0, none⟩ ∧ w.heap.size < g ∧ g < w4.heap.size ∧ Nums w4 g cap4 O) := fun h => by
            obtain ⟨g, h1, h2, cur, h5, h6, h7⟩ := hB4 h
            have hN : Nums w4 g cap4 O := ⟨cur, h5, h6, by rw [HF.out.1]; exact h7⟩
            exact ⟨g, h1, by have : w3.heap.size ≤ g := h2; have : W0.heap.size ≤ w3.heap.size := hz3; omega, hN.lt, hN⟩
          obtain ⟨g4, H4⟩ := pull HB4.out
          have K4 := Lib.hid H4
          have zz : w.heap.size < w4.heap.size := by have h1 : W0.heap.size ≤ w3.heap.size := hz3; have h2 := hb4.size; omega
          clear hB4 hown4 hs3 hb3 hb4 hc3 hz3 b0 f0 f1 f2 z0 hs4 HB4 H4
          go_wp2_with (at_make; refine wpList_make_full _ rfl _ _ 23 rfl w4.heap.size 2 i0 (.int .i64 0) 1 Try.underlying23 hi hz0 hz1 _ _ _ _ bal.length rfl rfl rfl rfl (by rw [hz2]; omega) (by unfold maxLen; omega) (Nat.le_refl _) ?_; intro w5 hown5 hgrow5)
          have hb45 := grown_below1 hgrow5
          obtain ⟨cur0, hB0, _, _, hcl0, hct0, _⟩ := blk_of_own hown5
          have hc0 : cur0 = List.replicate bal.length (.int .i64 0) := by
            rw [← List.take_of_length_le (show cur0.length ≤ bal.length * 1 by omega), hct0, Nat.mul_one]
            exact toList_madeCells_one _ _
          have hN5 : Nums w5 w4.heap.size bal.length (List.replicate bal.length 0) := ⟨cur0, hB0, by rw [hc0]; simp, by rw [hc0]; simp⟩
          clear hown5 hgrow5 hB0 hcl0 hct0 hc0
          have HZL := Lib.hid (show (List.replicate bal.length (0 : Int)).length = bal.length from by simp)
          have HP : Hid (∀ W, Below w4.heap.size w4 W → W.cell? ⟨w.heap.size, 0, none⟩ = some (.slice ao bal.length cap)) := fun W hW => (hW.cell (p := ⟨w.heap.size, 0, none⟩) zz).trans hc4
          clear hc4
          go_loopg [17] bal.length (fun gg i wr => ∃ k : Nat, k + gg = bal.length ∧ i = .int .i64 k ∧ Nums wr w4.heap.size bal.length (mixL (subL bal O) (List.replicate bal.length 0) k) ∧ Below w4.heap.size w4 wr)
          case atStart => exact ⟨0, by omega, rfl, by rw [mixL_zero]; exact hN5, hb45⟩
          case round =>
            obtain ⟨k, hkg, rfl, hN, hb⟩ := hrel
            cases gk with
            | succ gg =>
              have hlt : (k : Int) < (bal.length : Int) := by omega
              have hkn : k < bal.length := by omega
              have hp : 0 < bal.length := by omega
              have hbw := bl_tr hbw4 hb
              have hcp := HP.out _ hb
              obtain ⟨rfl, hg4, hl4, hN4⟩ := K4.out hp
              have hN4' := hN4.below hb
              obtain ⟨b1, o1, x, rfl, hcx, hx⟩ := (HV.out.below hbw).get (i := k) hkn
              have c4 := hN4'.cell (i := k) (by have := HF.out.1; omega)
              have hml := mixL_length (k := k) HF.out.2.2 HZL.out (Nat.le_of_lt hkn)
              have c5 := hN.cell (i := k) (by omega)
              have f5 := hN.frozen k
              have hor := HOr.out k hkn
              have hsub := getD_subL hkn (show k < O.length by have := HF.out.1; omega)
              have hbal := HBR.out bal[k] (List.getElem_mem hkn)
              have e1 : bal[k] = bal.getD k 0 := by simp [List.getD, hkn]
              rw [e1, hx.out] at hbal
              rw [hx.out] at hor hsub
              clear e1
              generalize O.getD k 0 = y at c4 hsub hor
              generalize (mixL (subL bal O) (List.replicate bal.length 0) k).getD k 0 = y5 at c5
              have HS := Lib.hid hsub
              have X := Lib.hid hN
              clear hsub hN hN4 hN4' hml hbw
              go_wp2_with fail
              go_region
              go_wp2_with fail
              go_roundg gg
              case measure => omega
              case rel =>
                refine ⟨k + 1, by omega, by go_num, ?_, (hb.setCell (Nat.le_refl _) _).drew⟩
                have e := mixL_set HF.out.2.2 HZL.out hkn
                rw [HS.out] at e
                rw [← e]
                exact X.out.set k (x - y)
            | zero =>
              have hlt : ¬ ((k : Int) < (bal.length : Int)) := by omega
              obtain rfl : k = bal.length := by omega
              obtain ⟨w6, hw6⟩ : ∃ w6 : World, w6 = wr := ⟨_, rfl⟩
              subst hw6
              have hbw6 := bl_tr hbw4 hb
              have HR6 : Hid (Sl .i64 w6 (.slice (some ⟨w4.heap.size, 0, none⟩) bal.length bal.length) (subL bal O)) := by
                have h := hN
                rw [mixL_all HF.out.2.2 HZL.out] at h
                exact h.sl HF.out.2.2 (Nat.le_refl _) (by unfold maxLen; omega)
              have K6 : Hid (0 < bal.length → ao4 = some ⟨g4, 0, none⟩ ∧ w.heap.size < g4 ∧ g4 < w6.heap.size ∧ Nums w6 g4 cap4 O) := fun h => by
                obtain ⟨h1, h2, h3, h4⟩ := K4.out h
                exact ⟨h1, h2, (h4.below hb).lt, h4.below hb⟩
              clear hN
              go_wp2_with fail
              refine (refHigh_any _ rates _ (HU.out.below hbw6) HX.out).mono ?_
              rintro e w7 ⟨u7, rfl, hs7, hb7⟩
              rw [ltOf_t] at hs7
              have ew : L1 + amount - d = amount - d + L1 := by omega
              have hwr1 : 0 ≤ L1 + amount - d ∧ L1 + amount - d ≤ 1000000000000000 := by omega
              have HEW := Lib.hid ew
              clear ew
              go_wp2_with fail
              rw [HEW.out]
              refine (refInto_any _ _ (subL bal O) (rankL ltHigh rates rates.length) (amount - d + L1) _ HI2 _ (HR6.out.below hb7) hs7 (by rw [HF.out.2.2]; exact hn1) HHn.out).mono ?_
              rintro e w8 ⟨u8, rfl, hown8, hb8⟩
              have hown8' : w8.ownsRow w7.heap.size 2 1 u8 bal.length (M.map (Value.int .i64)) := by
                have := hown8
                simp only at this
                rwa [HF.out.2.1] at this
              have hb68 : Below w6.heap.size w6 w8 := bl_tr hb7 hb8
              have hbw8 : Below w.heap.size w w8 := bl_tr hbw6 hb68
              obtain ⟨ao8, cap8, rfl, hn8, hm8, hB8⟩ := own_block hown8'
              have HB8 : Hid (0 < bal.length → ∃ g, ao8 = some ⟨g, 0, none⟩ ∧ w7.heap.size ≤ g ∧ Nums w8 g cap8 M) := fun h => by
                obtain ⟨g, h1, h2, cur, h5, h6, h7⟩ := hB8 h
                exact ⟨g, h1, h2, cur, h5, h6, by rw [HF.out.2.1]; exact h7⟩
              obtain ⟨g8, H8⟩ := pull HB8.out
              have K8 := Lib.hid H8
              have K4' : Hid (0 < bal.length → ao4 = some ⟨g4, 0, none⟩ ∧ w.heap.size ≤ g4 ∧ g4 < w7.heap.size ∧ Nums w8 g4 cap4 O) := fun h => by
                obtain ⟨h1, h2, h3, h4⟩ := K6.out h
                exact ⟨h1, Nat.le_of_lt h2, Nat.lt_of_lt_of_le h3 hb7.size, h4.below hb68⟩
              have hAl : (addL O M).length = bal.length := by unfold addL; rw [List.length_zipWith]; have := HF.out; omega
              have HAl := Lib.hid hAl
              clear H8 hB8 hown8 hown8' HB8 hb7 hb8 hb68 hb hs7 hAl hbw6 hwr1 hb45 hN5
              go_wp2_with fail
              go_loopg [20] bal.length (fun gg i wr => ∃ k : Nat, k + gg = bal.length ∧ i = .int .i64 k ∧ Hid (0 < bal.length → Nums wr g4 cap4 (mixL (addL O M) O k) ∧ Nums wr g8 cap8 M) ∧ Below w.heap.size w wr)
              case atStart => exact ⟨0, by omega, rfl, fun h => ⟨by rw [mixL_zero]; exact (K4'.out h).2.2.2, (K8.out h).2.2⟩, hbw8⟩
              case round =>
                obtain ⟨k, hkg, rfl, HN, hb⟩ := hrel
                cases gk with
                | succ gg =>
                  have hlt : (k : Int) < (bal.length : Int) := by omega
                  have hkn : k < bal.length := by omega
                  have hp : 0 < bal.length := by omega
                  obtain ⟨rfl, hg4, hl4, _⟩ := K4'.out hp
                  obtain ⟨rfl, hg8, _⟩ := K8.out hp
                  obtain ⟨N4, N8⟩ := HN.out hp
                  have hml := mixL_length (k := k) HAl.out HF.out.1 (Nat.le_of_lt hkn)
                  have c4 := N4.cell (i := k) (by omega)
                  rw [mixL_get HAl.out HF.out.1 hkn] at c4
                  have c8 := N8.cell (i := k) (by have := HF.out.2.1; omega)
                  have f4 := N4.frozen k
                  have hadd := getD_addL (show k < O.length by have := HF.out.1; omega) (show k < M.length by have := HF.out.2.1; omega)
                  have hor := HOr.out k hkn
                  have hmr := HMr.out k hkn
                  rw [getD_subL hkn (show k < O.length by have := HF.out.1; omega)] at hmr
                  have hbal := HBR.out bal[k] (List.getElem_mem hkn)
                  have e1 : bal[k] = bal.getD k 0 := by simp [List.getD, hkn]
                  rw [e1] at hbal
                  clear e1
                  generalize bal.getD k 0 = x at hor hbal hmr
                  generalize O.getD k 0 = y at c4 hadd hor hmr
                  generalize M.getD k 0 = z at c8 hadd hmr
                  have HS := Lib.hid hadd
                  have X := Lib.hid (And.intro N4 N8)
                  clear hadd N4 N8 hml
                  go_wp2_with fail
                  go_region
                  go_wp2_with fail
                  go_roundg gg
                  case measure => omega
                  case rel =>
                    obtain ⟨N4, N8⟩ := X.out
                    refine ⟨k + 1, by omega, by go_num, fun h => ⟨?_, N8.setOther (by omega) _ _⟩, (hb.setCell (show w.heap.size ≤ g4 by omega) _).drew⟩
                    have e := mixL_set HAl.out HF.out.1 hkn
                    rw [HS.out] at e
                    rw [← e]
                    exact N4.set k (y + z)
                | zero =>
                  have hlt : ¬ ((k : Int) < (bal.length : Int)) := by omega
                  obtain rfl : k = bal.length := by omega
                  have HRS : Hid (Sl .i64 wr (.slice ao4 bal.length cap4) (addL O M)) := by
                    by_cases h : 0 < bal.length
                    · obtain ⟨h1, _, _⟩ := K4'.out h
                      rw [h1]
                      have h2 := (HN.out h).1
                      rw [mixL_all HAl.out HF.out.1] at h2
                      exact h2.sl HAl.out hn4 hm4
                    · exact sl_empty HAl.out (by omega) hm4 (fun e => (HC4.out e).2)
                  clear HN
                  go_wp2_with fail
                  refine bodyPost_ret (results_tmp4 rfl _ _ _) rfl ?_
                  rw [HR2.out]
                  exact ⟨_, rfl, ⟨HRS.out, fr_of fun h => ⟨(K4'.out h).1, (K4'.out h).2.1⟩⟩, hb⟩
end Go.Proofs.Ytbiiejolemcifaa
