/- TermsBounds: each number at its bounds, and one beyond. -/
import Derived.Test.YtofajlemknkndaaLaw06
namespace Go.Proofs.Ytofajlemknkndaa
open Go.RowKit

set_option maxHeartbeats 400000 in
theorem bounds_4_false_false (which : Int) (hq : (IntKind.u64.wrap which).tmod 8 = 4) (w : World) : Calls Try.prog 3 #[.int .i64 which, .bool false, .bool false] w (RetB (.bool true) w) := by
  go_enter Try.func3, Try.ntmps3
  go_wp2_with fail
  refine (awake6_any _).mono ?_
  rintro e w1 ⟨rfl, hb1⟩
  obtain ⟨hc, hf⟩ := bcell hb1
  go_wp2_with fail
  refine (termsRight_any _ [(5, false)] 5 5 5 0 5 10957 0 (Lib.hid (by decide)) _ ((TrS.litAt w _ [(5, false)] 1 _ rfl _ rfl (by decide) rfl).below (by repeat (first | exact Below.refl _ _ | refine bl_al ?_ _ | refine bl_dr ?_ | refine bl_dN ?_ _ | refine bl_tr ?_ (by assumption))))).mono ?_
  rintro e w2 ⟨rfl, hb2⟩
  go_wp2_with fail
  go_ret
  exact ⟨rfl, (by repeat (first | exact Below.refl _ _ | refine bl_al ?_ _ | refine bl_dr ?_ | refine bl_dN ?_ _ | refine bl_tr ?_ (by assumption)))⟩
set_option maxHeartbeats 400000 in
theorem bounds_4_false_true (which : Int) (hq : (IntKind.u64.wrap which).tmod 8 = 4) (w : World) : Calls Try.prog 3 #[.int .i64 which, .bool false, .bool true] w (RetB (.bool true) w) := by
  go_enter Try.func3, Try.ntmps3
  go_wp2_with fail
  refine (awake6_any _).mono ?_
  rintro e w1 ⟨rfl, hb1⟩
  obtain ⟨hc, hf⟩ := bcell hb1
  go_wp2_with fail
  refine (termsRight_any _ [(5, false)] 5 5 5 (-1) 5 10957 6 (Lib.hid (by decide)) _ ((TrS.litAt w _ [(5, false)] 1 _ rfl _ rfl (by decide) rfl).below (by repeat (first | exact Below.refl _ _ | refine bl_al ?_ _ | refine bl_dr ?_ | refine bl_dN ?_ _ | refine bl_tr ?_ (by assumption))))).mono ?_
  rintro e w2 ⟨rfl, hb2⟩
  go_wp2_with fail
  go_ret
  exact ⟨rfl, (by repeat (first | exact Below.refl _ _ | refine bl_al ?_ _ | refine bl_dr ?_ | refine bl_dN ?_ _ | refine bl_tr ?_ (by assumption)))⟩
set_option maxHeartbeats 400000 in
theorem bounds_4_true_false (which : Int) (hq : (IntKind.u64.wrap which).tmod 8 = 4) (w : World) : Calls Try.prog 3 #[.int .i64 which, .bool true, .bool false] w (RetB (.bool true) w) := by
  go_enter Try.func3, Try.ntmps3
  go_wp2_with fail
  refine (awake6_any _).mono ?_
  rintro e w1 ⟨rfl, hb1⟩
  obtain ⟨hc, hf⟩ := bcell hb1
  go_wp2_with fail
  refine (termsRight_any _ [(5, false)] 5 5 5 1000000000000000 5 10957 0 (Lib.hid (by decide)) _ ((TrS.litAt w _ [(5, false)] 1 _ rfl _ rfl (by decide) rfl).below (by repeat (first | exact Below.refl _ _ | refine bl_al ?_ _ | refine bl_dr ?_ | refine bl_dN ?_ _ | refine bl_tr ?_ (by assumption))))).mono ?_
  rintro e w2 ⟨rfl, hb2⟩
  go_wp2_with fail
  go_ret
  exact ⟨rfl, (by repeat (first | exact Below.refl _ _ | refine bl_al ?_ _ | refine bl_dr ?_ | refine bl_dN ?_ _ | refine bl_tr ?_ (by assumption)))⟩
set_option maxHeartbeats 400000 in
theorem bounds_4_true_true (which : Int) (hq : (IntKind.u64.wrap which).tmod 8 = 4) (w : World) : Calls Try.prog 3 #[.int .i64 which, .bool true, .bool true] w (RetB (.bool true) w) := by
  go_enter Try.func3, Try.ntmps3
  go_wp2_with fail
  refine (awake6_any _).mono ?_
  rintro e w1 ⟨rfl, hb1⟩
  obtain ⟨hc, hf⟩ := bcell hb1
  go_wp2_with fail
  refine (termsRight_any _ [(5, false)] 5 5 5 1000000000000001 5 10957 6 (Lib.hid (by decide)) _ ((TrS.litAt w _ [(5, false)] 1 _ rfl _ rfl (by decide) rfl).below (by repeat (first | exact Below.refl _ _ | refine bl_al ?_ _ | refine bl_dr ?_ | refine bl_dN ?_ _ | refine bl_tr ?_ (by assumption))))).mono ?_
  rintro e w2 ⟨rfl, hb2⟩
  go_wp2_with fail
  go_ret
  exact ⟨rfl, (by repeat (first | exact Below.refl _ _ | refine bl_al ?_ _ | refine bl_dr ?_ | refine bl_dN ?_ _ | refine bl_tr ?_ (by assumption)))⟩
set_option maxHeartbeats 400000 in
theorem bounds_5_false_false (which : Int) (hq : (IntKind.u64.wrap which).tmod 8 = 5) (w : World) : Calls Try.prog 3 #[.int .i64 which, .bool false, .bool false] w (RetB (.bool true) w) := by
  go_enter Try.func3, Try.ntmps3
  go_wp2_with fail
  refine (awake6_any _).mono ?_
  rintro e w1 ⟨rfl, hb1⟩
  obtain ⟨hc, hf⟩ := bcell hb1
  go_wp2_with fail
  refine (termsRight_any _ [(5, false)] 5 5 5 5 0 10957 0 (Lib.hid (by decide)) _ ((TrS.litAt w _ [(5, false)] 1 _ rfl _ rfl (by decide) rfl).below (by repeat (first | exact Below.refl _ _ | refine bl_al ?_ _ | refine bl_dr ?_ | refine bl_dN ?_ _ | refine bl_tr ?_ (by assumption))))).mono ?_
  rintro e w2 ⟨rfl, hb2⟩
  go_wp2_with fail
  go_ret
  exact ⟨rfl, (by repeat (first | exact Below.refl _ _ | refine bl_al ?_ _ | refine bl_dr ?_ | refine bl_dN ?_ _ | refine bl_tr ?_ (by assumption)))⟩
set_option maxHeartbeats 400000 in
theorem bounds_5_false_true (which : Int) (hq : (IntKind.u64.wrap which).tmod 8 = 5) (w : World) : Calls Try.prog 3 #[.int .i64 which, .bool false, .bool true] w (RetB (.bool true) w) := by
  go_enter Try.func3, Try.ntmps3
  go_wp2_with fail
  refine (awake6_any _).mono ?_
  rintro e w1 ⟨rfl, hb1⟩
  obtain ⟨hc, hf⟩ := bcell hb1
  go_wp2_with fail
  refine (termsRight_any _ [(5, false)] 5 5 5 5 (-1) 10957 6 (Lib.hid (by decide)) _ ((TrS.litAt w _ [(5, false)] 1 _ rfl _ rfl (by decide) rfl).below (by repeat (first | exact Below.refl _ _ | refine bl_al ?_ _ | refine bl_dr ?_ | refine bl_dN ?_ _ | refine bl_tr ?_ (by assumption))))).mono ?_
  rintro e w2 ⟨rfl, hb2⟩
  go_wp2_with fail
  go_ret
  exact ⟨rfl, (by repeat (first | exact Below.refl _ _ | refine bl_al ?_ _ | refine bl_dr ?_ | refine bl_dN ?_ _ | refine bl_tr ?_ (by assumption)))⟩
set_option maxHeartbeats 400000 in
theorem bounds_5_true_false (which : Int) (hq : (IntKind.u64.wrap which).tmod 8 = 5) (w : World) : Calls Try.prog 3 #[.int .i64 which, .bool true, .bool false] w (RetB (.bool true) w) := by
  go_enter Try.func3, Try.ntmps3
  go_wp2_with fail
  refine (awake6_any _).mono ?_
  rintro e w1 ⟨rfl, hb1⟩
  obtain ⟨hc, hf⟩ := bcell hb1
  go_wp2_with fail
  refine (termsRight_any _ [(5, false)] 5 5 5 5 1000 10957 0 (Lib.hid (by decide)) _ ((TrS.litAt w _ [(5, false)] 1 _ rfl _ rfl (by decide) rfl).below (by repeat (first | exact Below.refl _ _ | refine bl_al ?_ _ | refine bl_dr ?_ | refine bl_dN ?_ _ | refine bl_tr ?_ (by assumption))))).mono ?_
  rintro e w2 ⟨rfl, hb2⟩
  go_wp2_with fail
  go_ret
  exact ⟨rfl, (by repeat (first | exact Below.refl _ _ | refine bl_al ?_ _ | refine bl_dr ?_ | refine bl_dN ?_ _ | refine bl_tr ?_ (by assumption)))⟩
set_option maxHeartbeats 400000 in
theorem bounds_5_true_true (which : Int) (hq : (IntKind.u64.wrap which).tmod 8 = 5) (w : World) : Calls Try.prog 3 #[.int .i64 which, .bool true, .bool true] w (RetB (.bool true) w) := by
  go_enter Try.func3, Try.ntmps3
  go_wp2_with fail
  refine (awake6_any _).mono ?_
  rintro e w1 ⟨rfl, hb1⟩
  obtain ⟨hc, hf⟩ := bcell hb1
  go_wp2_with fail
  refine (termsRight_any _ [(5, false)] 5 5 5 5 1001 10957 6 (Lib.hid (by decide)) _ ((TrS.litAt w _ [(5, false)] 1 _ rfl _ rfl (by decide) rfl).below (by repeat (first | exact Below.refl _ _ | refine bl_al ?_ _ | refine bl_dr ?_ | refine bl_dN ?_ _ | refine bl_tr ?_ (by assumption))))).mono ?_
  rintro e w2 ⟨rfl, hb2⟩
  go_wp2_with fail
  go_ret
  exact ⟨rfl, (by repeat (first | exact Below.refl _ _ | refine bl_al ?_ _ | refine bl_dr ?_ | refine bl_dN ?_ _ | refine bl_tr ?_ (by assumption)))⟩
set_option maxHeartbeats 400000 in
theorem bounds_6_false_false (which : Int) (hq : (IntKind.u64.wrap which).tmod 8 = 6) (w : World) : Calls Try.prog 3 #[.int .i64 which, .bool false, .bool false] w (RetB (.bool true) w) := by
  go_enter Try.func3, Try.ntmps3
  go_wp2_with fail
  refine (awake6_any _).mono ?_
  rintro e w1 ⟨rfl, hb1⟩
  obtain ⟨hc, hf⟩ := bcell hb1
  go_wp2_with fail
  refine (termsRight_any _ [(5, false)] 5 5 5 5 5 (-135140) 0 (Lib.hid (by decide)) _ ((TrS.litAt w _ [(5, false)] 1 _ rfl _ rfl (by decide) rfl).below (by repeat (first | exact Below.refl _ _ | refine bl_al ?_ _ | refine bl_dr ?_ | refine bl_dN ?_ _ | refine bl_tr ?_ (by assumption))))).mono ?_
  rintro e w2 ⟨rfl, hb2⟩
  go_wp2_with fail
  go_ret
  exact ⟨rfl, (by repeat (first | exact Below.refl _ _ | refine bl_al ?_ _ | refine bl_dr ?_ | refine bl_dN ?_ _ | refine bl_tr ?_ (by assumption)))⟩
set_option maxHeartbeats 400000 in
theorem bounds_6_false_true (which : Int) (hq : (IntKind.u64.wrap which).tmod 8 = 6) (w : World) : Calls Try.prog 3 #[.int .i64 which, .bool false, .bool true] w (RetB (.bool true) w) := by
  go_enter Try.func3, Try.ntmps3
  go_wp2_with fail
  refine (awake6_any _).mono ?_
  rintro e w1 ⟨rfl, hb1⟩
  obtain ⟨hc, hf⟩ := bcell hb1
  go_wp2_with fail
  refine (termsRight_any _ [(5, false)] 5 5 5 5 5 (-135141) 6 (Lib.hid (by decide)) _ ((TrS.litAt w _ [(5, false)] 1 _ rfl _ rfl (by decide) rfl).below (by repeat (first | exact Below.refl _ _ | refine bl_al ?_ _ | refine bl_dr ?_ | refine bl_dN ?_ _ | refine bl_tr ?_ (by assumption))))).mono ?_
  rintro e w2 ⟨rfl, hb2⟩
  go_wp2_with fail
  go_ret
  exact ⟨rfl, (by repeat (first | exact Below.refl _ _ | refine bl_al ?_ _ | refine bl_dr ?_ | refine bl_dN ?_ _ | refine bl_tr ?_ (by assumption)))⟩
set_option maxHeartbeats 400000 in
theorem bounds_6_true_false (which : Int) (hq : (IntKind.u64.wrap which).tmod 8 = 6) (w : World) : Calls Try.prog 3 #[.int .i64 which, .bool true, .bool false] w (RetB (.bool true) w) := by
  go_enter Try.func3, Try.ntmps3
  go_wp2_with fail
  refine (awake6_any _).mono ?_
  rintro e w1 ⟨rfl, hb1⟩
  obtain ⟨hc, hf⟩ := bcell hb1
  go_wp2_with fail
  refine (termsRight_any _ [(5, false)] 5 5 5 5 5 2922896 0 (Lib.hid (by decide)) _ ((TrS.litAt w _ [(5, false)] 1 _ rfl _ rfl (by decide) rfl).below (by repeat (first | exact Below.refl _ _ | refine bl_al ?_ _ | refine bl_dr ?_ | refine bl_dN ?_ _ | refine bl_tr ?_ (by assumption))))).mono ?_
  rintro e w2 ⟨rfl, hb2⟩
  go_wp2_with fail
  go_ret
  exact ⟨rfl, (by repeat (first | exact Below.refl _ _ | refine bl_al ?_ _ | refine bl_dr ?_ | refine bl_dN ?_ _ | refine bl_tr ?_ (by assumption)))⟩
set_option maxHeartbeats 400000 in
theorem bounds_6_true_true (which : Int) (hq : (IntKind.u64.wrap which).tmod 8 = 6) (w : World) : Calls Try.prog 3 #[.int .i64 which, .bool true, .bool true] w (RetB (.bool true) w) := by
  go_enter Try.func3, Try.ntmps3
  go_wp2_with fail
  refine (awake6_any _).mono ?_
  rintro e w1 ⟨rfl, hb1⟩
  obtain ⟨hc, hf⟩ := bcell hb1
  go_wp2_with fail
  refine (termsRight_any _ [(5, false)] 5 5 5 5 5 2922897 6 (Lib.hid (by decide)) _ ((TrS.litAt w _ [(5, false)] 1 _ rfl _ rfl (by decide) rfl).below (by repeat (first | exact Below.refl _ _ | refine bl_al ?_ _ | refine bl_dr ?_ | refine bl_dN ?_ _ | refine bl_tr ?_ (by assumption))))).mono ?_
  rintro e w2 ⟨rfl, hb2⟩
  go_wp2_with fail
  go_ret
  exact ⟨rfl, (by repeat (first | exact Below.refl _ _ | refine bl_al ?_ _ | refine bl_dr ?_ | refine bl_dN ?_ _ | refine bl_tr ?_ (by assumption)))⟩
set_option maxHeartbeats 400000 in
theorem bounds_7_false_false (which : Int) (hq : (IntKind.u64.wrap which).tmod 8 = 7) (w : World) : Calls Try.prog 3 #[.int .i64 which, .bool false, .bool false] w (RetB (.bool true) w) := by
  have hmk : ∀ w : World, (Instr.makeSlice 24 (.int .i64 1) (.int .i64 1)).run Try.prog w = .ok (.slice (some ⟨w.heap.size, 0, none⟩) 1 1) (w.alloc (.cells #[.int .i64 0, .bool false] 23)) := fun _ => by kernel_rfl
  go_enter Try.func3, Try.ntmps3
  go_wp2_with fail
  refine (awake6_any _).mono ?_
  rintro e w1 ⟨rfl, hb1⟩
  obtain ⟨hc, hf⟩ := bcell hb1
  go_wp2_with fail
  refine (termsRight_any _ (List.replicate 1 (0, false)) 5 5 5 5 5 10957 0 (Lib.hid (by decide)) _ (TrS.last (List.replicate 1 (0, false)) 1 hb1 rfl (by decide) (by decide) (by simp))).mono ?_
  rintro e w2 ⟨rfl, hb2⟩
  go_wp2_with fail
  go_ret
  exact ⟨rfl, (by repeat (first | exact Below.refl _ _ | refine bl_al ?_ _ | refine bl_dr ?_ | refine bl_dN ?_ _ | refine bl_tr ?_ (by assumption)))⟩
set_option maxHeartbeats 400000 in
theorem bounds_7_false_true (which : Int) (hq : (IntKind.u64.wrap which).tmod 8 = 7) (w : World) : Calls Try.prog 3 #[.int .i64 which, .bool false, .bool true] w (RetB (.bool true) w) := by
  have hmk : ∀ w : World, (Instr.makeSlice 24 (.int .i64 0) (.int .i64 0)).run Try.prog w = .ok (.slice (some ⟨w.heap.size, 0, none⟩) 0 0) (w.alloc (.cells #[] 23)) := fun _ => by kernel_rfl
  go_enter Try.func3, Try.ntmps3
  go_wp2_with fail
  refine (awake6_any _).mono ?_
  rintro e w1 ⟨rfl, hb1⟩
  obtain ⟨hc, hf⟩ := bcell hb1
  go_wp2_with fail
  refine (termsRight_any _ (List.replicate 0 (0, false)) 5 5 5 5 5 10957 6 (Lib.hid (by decide)) _ (TrS.last (List.replicate 0 (0, false)) 0 hb1 rfl (by decide) (by decide) (by simp))).mono ?_
  rintro e w2 ⟨rfl, hb2⟩
  go_wp2_with fail
  go_ret
  exact ⟨rfl, (by repeat (first | exact Below.refl _ _ | refine bl_al ?_ _ | refine bl_dr ?_ | refine bl_dN ?_ _ | refine bl_tr ?_ (by assumption)))⟩
set_option maxHeartbeats 400000 in
theorem bounds_7_true_false (which : Int) (hq : (IntKind.u64.wrap which).tmod 8 = 7) (w : World) : Calls Try.prog 3 #[.int .i64 which, .bool true, .bool false] w (RetB (.bool true) w) := by
  have hmk : ∀ w : World, (Instr.makeSlice 24 (.int .i64 8) (.int .i64 8)).run Try.prog w = .ok (.slice (some ⟨w.heap.size, 0, none⟩) 8 8) (w.alloc (.cells #[.int .i64 0, .bool false, .int .i64 0, .bool false, .int .i64 0, .bool false, .int .i64 0, .bool false, .int .i64 0, .bool false, .int .i64 0, .bool false, .int .i64 0, .bool false, .int .i64 0, .bool false] 23)) := fun _ => by kernel_rfl
  go_enter Try.func3, Try.ntmps3
  go_wp2_with fail
  refine (awake6_any _).mono ?_
  rintro e w1 ⟨rfl, hb1⟩
  obtain ⟨hc, hf⟩ := bcell hb1
  go_wp2_with fail
  refine (termsRight_any _ (List.replicate 8 (0, false)) 5 5 5 5 5 10957 0 (Lib.hid (by decide)) _ (TrS.last (List.replicate 8 (0, false)) 8 hb1 rfl (by decide) (by decide) (by simp))).mono ?_
  rintro e w2 ⟨rfl, hb2⟩
  go_wp2_with fail
  go_ret
  exact ⟨rfl, (by repeat (first | exact Below.refl _ _ | refine bl_al ?_ _ | refine bl_dr ?_ | refine bl_dN ?_ _ | refine bl_tr ?_ (by assumption)))⟩
set_option maxHeartbeats 400000 in
theorem bounds_7_true_true (which : Int) (hq : (IntKind.u64.wrap which).tmod 8 = 7) (w : World) : Calls Try.prog 3 #[.int .i64 which, .bool true, .bool true] w (RetB (.bool true) w) := by
  have hmk : ∀ w : World, (Instr.makeSlice 24 (.int .i64 9) (.int .i64 9)).run Try.prog w = .ok (.slice (some ⟨w.heap.size, 0, none⟩) 9 9) (w.alloc (.cells #[.int .i64 0, .bool false, .int .i64 0, .bool false, .int .i64 0, .bool false, .int .i64 0, .bool false, .int .i64 0, .bool false, .int .i64 0, .bool false, .int .i64 0, .bool false, .int .i64 0, .bool false, .int .i64 0, .bool false] 23)) := fun _ => by kernel_rfl
  go_enter Try.func3, Try.ntmps3
  go_wp2_with fail
  refine (awake6_any _).mono ?_
  rintro e w1 ⟨rfl, hb1⟩
  obtain ⟨hc, hf⟩ := bcell hb1
  go_wp2_with fail
  refine (termsRight_any _ (List.replicate 9 (0, false)) 5 5 5 5 5 10957 6 (Lib.hid (by decide)) _ (TrS.last (List.replicate 9 (0, false)) 9 hb1 rfl (by decide) (by decide) (by simp))).mono ?_
  rintro e w2 ⟨rfl, hb2⟩
  go_wp2_with fail
  go_ret
  exact ⟨rfl, (by repeat (first | exact Below.refl _ _ | refine bl_al ?_ _ | refine bl_dr ?_ | refine bl_dN ?_ _ | refine bl_tr ?_ (by assumption)))⟩
end Go.Proofs.Ytofajlemknkndaa
