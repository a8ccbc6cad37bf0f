/- lombardhelp.Bytes and Terms: two texts of bytes, and two terms, held against each other. -/
import Derived.Test.YtdjfpbjlmojikaaSameT
import Derived.Test.YtdjfpbjlmojikaaTermsRight
import Derived.Test.YtdjfpbjlmojikaaBytes
import Derived.Laws.BytesArg
namespace Go.Proofs.Ytdjfpbjlmojikaa
open Go.RowKit

theorem conv_sl {w : World} {v : Value} {xs : List Int} (h : Sl .u8 w v xs) : (convert 38 9 v).run Try.prog w = .ok (.string (strOfNums xs)) w := by
  obtain ⟨ao, cap, rfl, h1, h2, h3⟩ := h
  by_cases hx : xs = []
  · subst hx
    cases ao with
    | none =>
      rw [run_convert_bytes_nil w 38 5 Try.underlying38 Try.underlying5 _ _ _ Try.underlying9]
      rfl
    | some a =>
      show (convert 38 9 (.slice (some a) 0 cap)).run Try.prog w = _
      rw [run_convert_bytes_string w 38 9 5 _ 0 cap Try.underlying38 Try.underlying5 Try.underlying9]
      simp [Conv.bytesToString, loadCells]
      rfl
  · obtain ⟨b, o, rfl, hc⟩ := h3 hx
    exact run_convert_bytes_arg w 38 5 Try.underlying38 Try.underlying5 b o _ cap xs rfl hc _ Try.underlying9
theorem bytes_true (v u : Value) (xs : List Int) (w : World) (hv : Sl .u8 w v xs) (hu : Sl .u8 w u xs) : Calls Try.prog 29 #[v, u] w (Ret (.bool true) w) := by
  have c1 := conv_sl hv
  have c2 := conv_sl hu
  go_enter Try.func29, Try.ntmps29
  go_wp2
  go_ret
  exact ⟨rfl, rfl⟩
set_option maxHeartbeats 800000 in
theorem sameTerms_true (v u : Value) (ts : List (Int × Bool)) (lim cyc dued minf minp start : Int) (w : World) (hv : TrS w v ts) (hu : TrS w u ts) :
    Calls Try.prog 30 #[.agg #[.int .i64 lim, v, .int .i64 cyc, .int .i64 dued, .int .i64 minf, .int .i64 minp, .int .i64 start], .agg #[.int .i64 lim, u, .int .i64 cyc, .int .i64 dued, .int .i64 minf, .int .i64 minp, .int .i64 start]] w (RetB (.bool true) w) := by
  have HV := Lib.hid hv
  have HU := Lib.hid hu
  obtain ⟨ao, cap, rfl, _, _, _⟩ := hv
  obtain ⟨ao', cap', rfl, _, _, _⟩ := hu
  have q1 : (lim == lim) = true := beq_self_eq_true _
  have q2 : (cyc == cyc) = true := beq_self_eq_true _
  have q3 : (dued == dued) = true := beq_self_eq_true _
  have q4 : (minf == minf) = true := beq_self_eq_true _
  have q5 : (minp == minp) = true := beq_self_eq_true _
  have q6 : (start == start) = true := beq_self_eq_true _
  go_enter Try.func30, Try.ntmps30
  go_wp2_with fail
  refine (plainT_any _ _ ts ts true (Lib.hid (by simp)) _ (HV.out.below (by repeat (first | with_reducible exact Below.refl _ _ | (with_reducible refine bl_sc ?_ ?hge; case hge => (first | exact Nat.le_refl _ | omega)) | with_reducible refine bl_al ?_ _ | with_reducible refine bl_dr ?_ | with_reducible refine bl_dN ?_ _ | (refine bl_tr ?_ (by assumption)) | (refine bl_gr ?_ (by assumption) (by first | exact Nat.le_refl _ | omega)) | exact Below.refl _ _ | refine bl_al ?_ _ | refine bl_dr ?_ | refine bl_dN ?_ _))) (HU.out.below (by repeat (first | with_reducible exact Below.refl _ _ | (with_reducible refine bl_sc ?_ ?hge; case hge => (first | exact Nat.le_refl _ | omega)) | with_reducible refine bl_al ?_ _ | with_reducible refine bl_dr ?_ | with_reducible refine bl_dN ?_ _ | (refine bl_tr ?_ (by assumption)) | (refine bl_gr ?_ (by assumption) (by first | exact Nat.le_refl _ | omega)) | exact Below.refl _ _ | refine bl_al ?_ _ | refine bl_dr ?_ | refine bl_dN ?_ _)))).mono ?_
  rintro e w1 ⟨rfl, hb1⟩
  obtain ⟨hc, hf⟩ := bcell hb1
  go_wp2_with fail
  go_ret
  exact ⟨rfl, bl_tr (bl_al (bl_al (Below.refl _ _) _) _) hb1⟩
end Go.Proofs.Ytdjfpbjlmojikaa
