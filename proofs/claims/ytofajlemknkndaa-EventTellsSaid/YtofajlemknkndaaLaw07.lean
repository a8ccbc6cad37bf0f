/- lombardlaw07: terms of two tranches; what a program that does nothing does not answer; EventKinds and EventDays. -/
import Derived.Test.YtofajlemknkndaaEvRight
import Derived.Test.YtofajlemknkndaaEvPack
namespace Go.Proofs.Ytofajlemknkndaa
open Go.RowKit

/-- terms() answers these terms, in memory of their own -/
def Terms7 (w : World) (e : Ending) (w' : World) : Prop := ∃ v, e = .returned (.agg #[.int .i64 0, v, .int .i64 1, .int .i64 1, .int .i64 0, .int .i64 0, .int .i64 10957]) ∧ TrS w' v [(0, false), (0, false)] ∧ Below w.heap.size w w'
set_option maxHeartbeats 400000 in
theorem terms7_any (w : World) : Calls Try.prog 25 #[] w (Terms7 w) := by
  go_enter Try.func25, Try.ntmps25
  go_wp2
  refine bodyPost_ret (v := .agg #[.int .i64 0, .slice (some ⟨w.heap.size + 1, 0, none⟩) 2 2, .int .i64 1, .int .i64 1, .int .i64 0, .int .i64 0, .int .i64 10957]) (by simp [results, Try.results25, go_sem]) rfl ⟨_, rfl, ?_, ?_⟩
  · exact TrS.litAt _ _ [(0, false), (0, false)] 2 _ rfl _ rfl (by decide) (by simp)
  · exact (by repeat (first | exact Below.refl _ _ | refine bl_al ?_ _ | refine bl_dr ?_ | refine bl_dN ?_ _ | refine bl_tr ?_ (by assumption)))

set_option maxHeartbeats 400000 in
theorem awake7_any (w : World) : Calls Try.prog 26 #[] w (RetB (.bool true) w) := by
  go_enter Try.func26, Try.ntmps26
  go_wp2_with fail
  refine (terms7_any _).mono ?_
  rintro e w1 ⟨v1, rfl, ht1, hb1⟩
  go_wp2_with fail
  refine (evRight_any _ [(0, false), (0, false)] 0 1 1 0 0 10957 2 10957 0 5 0 0 (Lib.hid (by decide)) _ ht1).mono ?_
  rintro e w2 ⟨rfl, hb2⟩
  go_wp2_with fail
  refine (terms7_any _).mono ?_
  rintro e w3 ⟨v3, rfl, ht3, hb3⟩
  go_wp2_with fail
  refine (evRight_any _ [(0, false), (0, false)] 0 1 1 0 0 10957 0 0 0 0 0 1 (Lib.hid (by decide)) _ ht3).mono ?_
  rintro e w4 ⟨rfl, hb4⟩
  go_wp2_with fail
  refine (evPack_any 3 0 0 0 0 _).mono ?_
  rintro e w5 ⟨rfl, hb5⟩
  have hix : ∀ W : World, (Instr.index 54 (arrV (packE 3 0 0 0 0)) (.int .i64 7)).run Try.prog W = .ok (.int .u8 3) W := fun _ => by kernel_rfl
  go_wp2_with fail
  go_ret
  exact ⟨rfl, (by repeat (first | exact Below.refl _ _ | refine bl_al ?_ _ | refine bl_dr ?_ | refine bl_dN ?_ _ | refine bl_tr ?_ (by assumption)))⟩
end Go.Proofs.Ytofajlemknkndaa
