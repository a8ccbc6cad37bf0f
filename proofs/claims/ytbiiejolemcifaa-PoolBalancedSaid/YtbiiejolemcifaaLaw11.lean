/- lombardlaw11.awake. -/
import Derived.Test.YtbiiejolemcifaaPoolG
namespace Go.Proofs.Ytbiiejolemcifaa
open Go.RowKit

set_option maxHeartbeats 800000 in
set_option maxRecDepth 100000 in
theorem awake11_any (w : World) : Calls Try.prog 11 #[] w (RetB (.bool true) w) := by
  go_enter Try.func11, Try.ntmps11
  go_wp2_with fail
  refine (poolCharge_any _ [0] 5 0 1 7 ([2], 0, 0, 0) (by show _ = _; decide) (by simp) _ (Sl.litAt _ _ [0] 1 _ rfl _ rfl (by unfold maxLen; omega) (by simp))).mono ?_
  rintro _ w1 ⟨u, rfl, hu, hb1⟩
  have HU := Lib.hid hu
  obtain ⟨ao, cap, rfl, h1, ⟨h2, _⟩, h3⟩ := hu
  obtain ⟨g, o, rfl, h4⟩ := h3 (List.cons_ne_nil _ _)
  have r0 := h4 0 (show 0 < 1 by omega)
  simp only [Nat.add_zero, List.getD_cons_zero] at r0
  simp only [List.length_cons, List.length_nil, Nat.zero_add] at h1 ⊢
  have hgl : g < w1.heap.size := cell_block_lt r0
  clear h4 h3 h2 HU
  go_wp2
  go_ret
  exact ⟨rfl, (by repeat (first | with_reducible exact Below.refl _ _ | (with_reducible refine bl_sc ?_ ?hge; case hge => (first | exact Nat.le_refl _ | omega)) | with_reducible refine bl_al ?_ _ | with_reducible refine bl_dr ?_ | with_reducible refine bl_dN ?_ _ | (refine bl_tr ?_ (by assumption)) | (refine bl_gr ?_ (by assumption) (by first | exact Nat.le_refl _ | omega)) | exact Below.refl _ _ | refine bl_al ?_ _ | refine bl_dr ?_ | refine bl_dN ?_ _))⟩
end Go.Proofs.Ytbiiejolemcifaa
