/- fall.Pay: how a payment goes into a position, or why not. -/
import Derived.Test.YtbiiejolemcifaaPayMath
import Derived.Test.YtbiiejolemcifaaClone64
import Derived.Test.YtbiiejolemcifaaPoolR
import Derived.Deep.RegionHeld3
import Derived.Deep.DeepCutAuto
import Derived.Deep.CutBlock
namespace Go.Proofs.Ytbiiejolemcifaa
open Go.RowKit

def Pay4N (r : List Int × Int × Int × Int) (w : World) (e : Ending) (w' : World) : Prop :=
  ∃ u, e = .returned (.tuple #[u, .int .i64 r.2.1, .int .i64 r.2.2.1, .int .i64 r.2.2.2]) ∧ (Sl .i64 w' u r.1 ∧ Fr w u) ∧ Below w.heap.size w w'

set_option maxRecDepth 100000 in
set_option maxHeartbeats 800000 in
theorem fallPay_no (ao : Option Addr) (n cap : Nat) (u : Value) (bal rates : List Int) (credit due amount : Int) (w : World) (hv : Sl .i64 w (.slice ao n cap) bal) (hu : Sl .i64 w u rates)
    (h : (rates.length == bal.length && !bal.any badMoney && !badMoney credit && !badMoney due && !badMoney amount) = false) :
    Calls Try.prog 45 #[.agg #[.slice ao n cap, .int .i64 credit, .int .i64 due], u, .int .i64 amount] w (Pay4N ([], 0, 0, 1) w) := by
  have HV := Lib.hid hv
  obtain ⟨hn, hcc, hcm⟩ := hv.len
  obtain ⟨ao', cap', rfl, h1', ⟨h2', _⟩, h3'⟩ := hu
  clear h3' hv
  unfold maxLen at h2' hcm
  subst hn
  by_cases hl : rates.length = bal.length
  · have d1 : ((rates.length : Int) != (bal.length : Int)) = false := by simp [hl]
    have d0 : (rates.length == bal.length) = true := by simp [hl]
    rw [d0] at h
    clear d0
    have HL := Lib.hid hl
    clear hl
    cases hb : bal.any badMoney with
    | true =>
      have HB : Hid (bal.any badMoney = !false) := hb
      clear hb h
      go_enter Try.func45, Try.ntmps45
      go_wp2_with fail
      refine (fallMay_any _ bal false HB _ (HV.out.alloc _)).mono ?_
      rintro e w1 ⟨rfl, rfl⟩
      go_wp2_with fail
      refine bodyPost_ret (results_tmp4 rfl _ _ _) rfl ?_
      exact ⟨_, rfl, ⟨sl_nil _ _, fr_nil⟩, (by repeat (first | with_reducible exact Below.refl _ _ | (with_reducible refine bl_sc ?_ ?hge; case hge => (first | exact Nat.le_refl _ | omega)) | with_reducible refine bl_al ?_ _ | with_reducible refine bl_dr ?_ | with_reducible refine bl_dN ?_ _ | (refine bl_tr ?_ (by assumption)) | (refine bl_gr ?_ (by assumption) (by first | exact Nat.le_refl _ | omega)) | exact Below.refl _ _ | refine bl_al ?_ _ | refine bl_dr ?_ | refine bl_dN ?_ _))⟩
    | false =>
      have HB : Hid (bal.any badMoney = !true) := hb
      have HA : Hid ([credit, due, amount].any badMoney = !false) := by
        show _ = _
        rw [hb] at h
        cases h1 : badMoney credit <;> cases h2 : badMoney due <;> cases h3 : badMoney amount <;> simp_all
      clear hb h
      go_enter Try.func45, Try.ntmps45
      go_wp2_with fail
      refine (fallMay_any _ bal true HB _ (HV.out.alloc _)).mono ?_
      rintro e w1 ⟨rfl, rfl⟩
      go_wp2_with fail
      refine (fallMay_any _ [credit, due, amount] false HA _ (Sl.litAt _ _ [credit, due, amount] 3 _ rfl _ rfl (by decide) (by simp))).mono ?_
      rintro e w2 ⟨rfl, rfl⟩
      go_wp2_with fail
      refine bodyPost_ret (results_tmp4 rfl _ _ _) rfl ?_
      exact ⟨_, rfl, ⟨sl_nil _ _, fr_nil⟩, (by repeat (first | with_reducible exact Below.refl _ _ | (with_reducible refine bl_sc ?_ ?hge; case hge => (first | exact Nat.le_refl _ | omega)) | with_reducible refine bl_al ?_ _ | with_reducible refine bl_dr ?_ | with_reducible refine bl_dN ?_ _ | (refine bl_tr ?_ (by assumption)) | (refine bl_gr ?_ (by assumption) (by first | exact Nat.le_refl _ | omega)) | exact Below.refl _ _ | refine bl_al ?_ _ | refine bl_dr ?_ | refine bl_dN ?_ _))⟩
  · have d1 : ((rates.length : Int) != (bal.length : Int)) = true := by simp; omega
    clear h
    go_enter Try.func45, Try.ntmps45
    go_wp2_with fail
    refine bodyPost_ret (results_tmp4 rfl _ _ _) rfl ?_
    exact ⟨_, rfl, ⟨sl_nil _ _, fr_nil⟩, (by repeat (first | with_reducible exact Below.refl _ _ | (with_reducible refine bl_sc ?_ ?hge; case hge => (first | exact Nat.le_refl _ | omega)) | with_reducible refine bl_al ?_ _ | with_reducible refine bl_dr ?_ | with_reducible refine bl_dN ?_ _ | (refine bl_tr ?_ (by assumption)) | (refine bl_gr ?_ (by assumption) (by first | exact Nat.le_refl _ | omega)) | exact Below.refl _ _ | refine bl_al ?_ _ | refine bl_dr ?_ | refine bl_dN ?_ _))⟩
end Go.Proofs.Ytbiiejolemcifaa
