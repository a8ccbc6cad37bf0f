/- TermsBounds: each number at its bounds, and one beyond. -/
import Derived.Test.YtofajlemknkndaaLaw06
namespace Go.Proofs.Ytofajlemknkndaa
open Go.RowKit

set_option maxHeartbeats 400000 in
theorem bounds_0_false_false (which : Int) (hq : (IntKind.u64.wrap which).tmod 8 = 0) (w : World) : Calls Try.prog 3 #[.int .i64 which, .bool false, .bool false] w (RetB (.bool true) w) := by
  go_enter Try.func3, Try.ntmps3
  go_wp2_with fail
  refine (awake6_any _).mono ?_
  rintro e w1 ⟨rfl, hb1⟩
  obtain ⟨hc, hf⟩ := bcell hb1
  go_wp2_with fail
  refine (termsRight_any _ [(5, false)] 0 5 5 5 5 10957 0 (Lib.hid (by decide)) _ ((TrS.litAt w _ [(5, false)] 1 _ rfl _ rfl (by decide) rfl).below (by repeat (first | exact Below.refl _ _ | refine bl_al ?_ _ | refine bl_dr ?_ | refine bl_dN ?_ _ | refine bl_tr ?_ (by assumption))))).mono ?_
  rintro e w2 ⟨rfl, hb2⟩
  go_wp2_with fail
  go_ret
  exact ⟨rfl, (by repeat (first | exact Below.refl _ _ | refine bl_al ?_ _ | refine bl_dr ?_ | refine bl_dN ?_ _ | refine bl_tr ?_ (by assumption)))⟩
set_option maxHeartbeats 400000 in
theorem bounds_0_false_true (which : Int) (hq : (IntKind.u64.wrap which).tmod 8 = 0) (w : World) : Calls Try.prog 3 #[.int .i64 which, .bool false, .bool true] w (RetB (.bool true) w) := by
  go_enter Try.func3, Try.ntmps3
  go_wp2_with fail
  refine (awake6_any _).mono ?_
  rintro e w1 ⟨rfl, hb1⟩
  obtain ⟨hc, hf⟩ := bcell hb1
  go_wp2_with fail
  refine (termsRight_any _ [(5, false)] (-1) 5 5 5 5 10957 6 (Lib.hid (by decide)) _ ((TrS.litAt w _ [(5, false)] 1 _ rfl _ rfl (by decide) rfl).below (by repeat (first | exact Below.refl _ _ | refine bl_al ?_ _ | refine bl_dr ?_ | refine bl_dN ?_ _ | refine bl_tr ?_ (by assumption))))).mono ?_
  rintro e w2 ⟨rfl, hb2⟩
  go_wp2_with fail
  go_ret
  exact ⟨rfl, (by repeat (first | exact Below.refl _ _ | refine bl_al ?_ _ | refine bl_dr ?_ | refine bl_dN ?_ _ | refine bl_tr ?_ (by assumption)))⟩
set_option maxHeartbeats 400000 in
theorem bounds_0_true_false (which : Int) (hq : (IntKind.u64.wrap which).tmod 8 = 0) (w : World) : Calls Try.prog 3 #[.int .i64 which, .bool true, .bool false] w (RetB (.bool true) w) := by
  go_enter Try.func3, Try.ntmps3
  go_wp2_with fail
  refine (awake6_any _).mono ?_
  rintro e w1 ⟨rfl, hb1⟩
  obtain ⟨hc, hf⟩ := bcell hb1
  go_wp2_with fail
  refine (termsRight_any _ [(5, false)] 1000000000000000 5 5 5 5 10957 0 (Lib.hid (by decide)) _ ((TrS.litAt w _ [(5, false)] 1 _ rfl _ rfl (by decide) rfl).below (by repeat (first | exact Below.refl _ _ | refine bl_al ?_ _ | refine bl_dr ?_ | refine bl_dN ?_ _ | refine bl_tr ?_ (by assumption))))).mono ?_
  rintro e w2 ⟨rfl, hb2⟩
  go_wp2_with fail
  go_ret
  exact ⟨rfl, (by repeat (first | exact Below.refl _ _ | refine bl_al ?_ _ | refine bl_dr ?_ | refine bl_dN ?_ _ | refine bl_tr ?_ (by assumption)))⟩
set_option maxHeartbeats 400000 in
theorem bounds_0_true_true (which : Int) (hq : (IntKind.u64.wrap which).tmod 8 = 0) (w : World) : Calls Try.prog 3 #[.int .i64 which, .bool true, .bool true] w (RetB (.bool true) w) := by
  go_enter Try.func3, Try.ntmps3
  go_wp2_with fail
  refine (awake6_any _).mono ?_
  rintro e w1 ⟨rfl, hb1⟩
  obtain ⟨hc, hf⟩ := bcell hb1
  go_wp2_with fail
  refine (termsRight_any _ [(5, false)] 1000000000000001 5 5 5 5 10957 6 (Lib.hid (by decide)) _ ((TrS.litAt w _ [(5, false)] 1 _ rfl _ rfl (by decide) rfl).below (by repeat (first | exact Below.refl _ _ | refine bl_al ?_ _ | refine bl_dr ?_ | refine bl_dN ?_ _ | refine bl_tr ?_ (by assumption))))).mono ?_
  rintro e w2 ⟨rfl, hb2⟩
  go_wp2_with fail
  go_ret
  exact ⟨rfl, (by repeat (first | exact Below.refl _ _ | refine bl_al ?_ _ | refine bl_dr ?_ | refine bl_dN ?_ _ | refine bl_tr ?_ (by assumption)))⟩
set_option maxHeartbeats 400000 in
theorem bounds_1_false_false (which : Int) (hq : (IntKind.u64.wrap which).tmod 8 = 1) (w : World) : Calls Try.prog 3 #[.int .i64 which, .bool false, .bool false] w (RetB (.bool true) w) := by
  go_enter Try.func3, Try.ntmps3
  go_wp2_with fail
  refine (awake6_any _).mono ?_
  rintro e w1 ⟨rfl, hb1⟩
  obtain ⟨hc, hf⟩ := bcell hb1
  go_wp2_with fail
  refine (termsRight_any _ [(0, false)] 5 5 5 5 5 10957 0 (Lib.hid (by decide)) _ ((TrS.litAt w _ [(0, false)] 1 _ rfl _ rfl (by decide) rfl).below (by repeat (first | exact Below.refl _ _ | refine bl_al ?_ _ | refine bl_dr ?_ | refine bl_dN ?_ _ | refine bl_tr ?_ (by assumption))))).mono ?_
  rintro e w2 ⟨rfl, hb2⟩
  go_wp2_with fail
  go_ret
  exact ⟨rfl, (by repeat (first | exact Below.refl _ _ | refine bl_al ?_ _ | refine bl_dr ?_ | refine bl_dN ?_ _ | refine bl_tr ?_ (by assumption)))⟩
set_option maxHeartbeats 400000 in
theorem bounds_1_false_true (which : Int) (hq : (IntKind.u64.wrap which).tmod 8 = 1) (w : World) : Calls Try.prog 3 #[.int .i64 which, .bool false, .bool true] w (RetB (.bool true) w) := by
  go_enter Try.func3, Try.ntmps3
  go_wp2_with fail
  refine (awake6_any _).mono ?_
  rintro e w1 ⟨rfl, hb1⟩
  obtain ⟨hc, hf⟩ := bcell hb1
  go_wp2_with fail
  refine (termsRight_any _ [(-1, false)] 5 5 5 5 5 10957 6 (Lib.hid (by decide)) _ ((TrS.litAt w _ [(-1, false)] 1 _ rfl _ rfl (by decide) rfl).below (by repeat (first | exact Below.refl _ _ | refine bl_al ?_ _ | refine bl_dr ?_ | refine bl_dN ?_ _ | refine bl_tr ?_ (by assumption))))).mono ?_
  rintro e w2 ⟨rfl, hb2⟩
  go_wp2_with fail
  go_ret
  exact ⟨rfl, (by repeat (first | exact Below.refl _ _ | refine bl_al ?_ _ | refine bl_dr ?_ | refine bl_dN ?_ _ | refine bl_tr ?_ (by assumption)))⟩
set_option maxHeartbeats 400000 in
theorem bounds_1_true_false (which : Int) (hq : (IntKind.u64.wrap which).tmod 8 = 1) (w : World) : Calls Try.prog 3 #[.int .i64 which, .bool true, .bool false] w (RetB (.bool true) w) := by
  go_enter Try.func3, Try.ntmps3
  go_wp2_with fail
  refine (awake6_any _).mono ?_
  rintro e w1 ⟨rfl, hb1⟩
  obtain ⟨hc, hf⟩ := bcell hb1
  go_wp2_with fail
  refine (termsRight_any _ [(10000000, false)] 5 5 5 5 5 10957 0 (Lib.hid (by decide)) _ ((TrS.litAt w _ [(10000000, false)] 1 _ rfl _ rfl (by decide) rfl).below (by repeat (first | exact Below.refl _ _ | refine bl_al ?_ _ | refine bl_dr ?_ | refine bl_dN ?_ _ | refine bl_tr ?_ (by assumption))))).mono ?_
  rintro e w2 ⟨rfl, hb2⟩
  go_wp2_with fail
  go_ret
  exact ⟨rfl, (by repeat (first | exact Below.refl _ _ | refine bl_al ?_ _ | refine bl_dr ?_ | refine bl_dN ?_ _ | refine bl_tr ?_ (by assumption)))⟩
set_option maxHeartbeats 400000 in
theorem bounds_1_true_true (which : Int) (hq : (IntKind.u64.wrap which).tmod 8 = 1) (w : World) : Calls Try.prog 3 #[.int .i64 which, .bool true, .bool true] w (RetB (.bool true) w) := by
  go_enter Try.func3, Try.ntmps3
  go_wp2_with fail
  refine (awake6_any _).mono ?_
  rintro e w1 ⟨rfl, hb1⟩
  obtain ⟨hc, hf⟩ := bcell hb1
  go_wp2_with fail
  refine (termsRight_any _ [(10000001, false)] 5 5 5 5 5 10957 6 (Lib.hid (by decide)) _ ((TrS.litAt w _ [(10000001, false)] 1 _ rfl _ rfl (by decide) rfl).below (by repeat (first | exact Below.refl _ _ | refine bl_al ?_ _ | refine bl_dr ?_ | refine bl_dN ?_ _ | refine bl_tr ?_ (by assumption))))).mono ?_
  rintro e w2 ⟨rfl, hb2⟩
  go_wp2_with fail
  go_ret
  exact ⟨rfl, (by repeat (first | exact Below.refl _ _ | refine bl_al ?_ _ | refine bl_dr ?_ | refine bl_dN ?_ _ | refine bl_tr ?_ (by assumption)))⟩
set_option maxHeartbeats 400000 in
theorem bounds_2_false_false (which : Int) (hq : (IntKind.u64.wrap which).tmod 8 = 2) (w : World) : Calls Try.prog 3 #[.int .i64 which, .bool false, .bool false] w (RetB (.bool true) w) := by
  go_enter Try.func3, Try.ntmps3
  go_wp2_with fail
  refine (awake6_any _).mono ?_
  rintro e w1 ⟨rfl, hb1⟩
  obtain ⟨hc, hf⟩ := bcell hb1
  go_wp2_with fail
  refine (termsRight_any _ [(5, false)] 5 1 5 5 5 10957 0 (Lib.hid (by decide)) _ ((TrS.litAt w _ [(5, false)] 1 _ rfl _ rfl (by decide) rfl).below (by repeat (first | exact Below.refl _ _ | refine bl_al ?_ _ | refine bl_dr ?_ | refine bl_dN ?_ _ | refine bl_tr ?_ (by assumption))))).mono ?_
  rintro e w2 ⟨rfl, hb2⟩
  go_wp2_with fail
  go_ret
  exact ⟨rfl, (by repeat (first | exact Below.refl _ _ | refine bl_al ?_ _ | refine bl_dr ?_ | refine bl_dN ?_ _ | refine bl_tr ?_ (by assumption)))⟩
set_option maxHeartbeats 400000 in
theorem bounds_2_false_true (which : Int) (hq : (IntKind.u64.wrap which).tmod 8 = 2) (w : World) : Calls Try.prog 3 #[.int .i64 which, .bool false, .bool true] w (RetB (.bool true) w) := by
  go_enter Try.func3, Try.ntmps3
  go_wp2_with fail
  refine (awake6_any _).mono ?_
  rintro e w1 ⟨rfl, hb1⟩
  obtain ⟨hc, hf⟩ := bcell hb1
  go_wp2_with fail
  refine (termsRight_any _ [(5, false)] 5 0 5 5 5 10957 6 (Lib.hid (by decide)) _ ((TrS.litAt w _ [(5, false)] 1 _ rfl _ rfl (by decide) rfl).below (by repeat (first | exact Below.refl _ _ | refine bl_al ?_ _ | refine bl_dr ?_ | refine bl_dN ?_ _ | refine bl_tr ?_ (by assumption))))).mono ?_
  rintro e w2 ⟨rfl, hb2⟩
  go_wp2_with fail
  go_ret
  exact ⟨rfl, (by repeat (first | exact Below.refl _ _ | refine bl_al ?_ _ | refine bl_dr ?_ | refine bl_dN ?_ _ | refine bl_tr ?_ (by assumption)))⟩
set_option maxHeartbeats 400000 in
theorem bounds_2_true_false (which : Int) (hq : (IntKind.u64.wrap which).tmod 8 = 2) (w : World) : Calls Try.prog 3 #[.int .i64 which, .bool true, .bool false] w (RetB (.bool true) w) := by
  go_enter Try.func3, Try.ntmps3
  go_wp2_with fail
  refine (awake6_any _).mono ?_
  rintro e w1 ⟨rfl, hb1⟩
  obtain ⟨hc, hf⟩ := bcell hb1
  go_wp2_with fail
  refine (termsRight_any _ [(5, false)] 5 28 5 5 5 10957 0 (Lib.hid (by decide)) _ ((TrS.litAt w _ [(5, false)] 1 _ rfl _ rfl (by decide) rfl).below (by repeat (first | exact Below.refl _ _ | refine bl_al ?_ _ | refine bl_dr ?_ | refine bl_dN ?_ _ | refine bl_tr ?_ (by assumption))))).mono ?_
  rintro e w2 ⟨rfl, hb2⟩
  go_wp2_with fail
  go_ret
  exact ⟨rfl, (by repeat (first | exact Below.refl _ _ | refine bl_al ?_ _ | refine bl_dr ?_ | refine bl_dN ?_ _ | refine bl_tr ?_ (by assumption)))⟩
set_option maxHeartbeats 400000 in
theorem bounds_2_true_true (which : Int) (hq : (IntKind.u64.wrap which).tmod 8 = 2) (w : World) : Calls Try.prog 3 #[.int .i64 which, .bool true, .bool true] w (RetB (.bool true) w) := by
  go_enter Try.func3, Try.ntmps3
  go_wp2_with fail
  refine (awake6_any _).mono ?_
  rintro e w1 ⟨rfl, hb1⟩
  obtain ⟨hc, hf⟩ := bcell hb1
  go_wp2_with fail
  refine (termsRight_any _ [(5, false)] 5 29 5 5 5 10957 6 (Lib.hid (by decide)) _ ((TrS.litAt w _ [(5, false)] 1 _ rfl _ rfl (by decide) rfl).below (by repeat (first | exact Below.refl _ _ | refine bl_al ?_ _ | refine bl_dr ?_ | refine bl_dN ?_ _ | refine bl_tr ?_ (by assumption))))).mono ?_
  rintro e w2 ⟨rfl, hb2⟩
  go_wp2_with fail
  go_ret
  exact ⟨rfl, (by repeat (first | exact Below.refl _ _ | refine bl_al ?_ _ | refine bl_dr ?_ | refine bl_dN ?_ _ | refine bl_tr ?_ (by assumption)))⟩
set_option maxHeartbeats 400000 in
theorem bounds_3_false_false (which : Int) (hq : (IntKind.u64.wrap which).tmod 8 = 3) (w : World) : Calls Try.prog 3 #[.int .i64 which, .bool false, .bool false] w (RetB (.bool true) w) := by
  go_enter Try.func3, Try.ntmps3
  go_wp2_with fail
  refine (awake6_any _).mono ?_
  rintro e w1 ⟨rfl, hb1⟩
  obtain ⟨hc, hf⟩ := bcell hb1
  go_wp2_with fail
  refine (termsRight_any _ [(5, false)] 5 5 1 5 5 10957 0 (Lib.hid (by decide)) _ ((TrS.litAt w _ [(5, false)] 1 _ rfl _ rfl (by decide) rfl).below (by repeat (first | exact Below.refl _ _ | refine bl_al ?_ _ | refine bl_dr ?_ | refine bl_dN ?_ _ | refine bl_tr ?_ (by assumption))))).mono ?_
  rintro e w2 ⟨rfl, hb2⟩
  go_wp2_with fail
  go_ret
  exact ⟨rfl, (by repeat (first | exact Below.refl _ _ | refine bl_al ?_ _ | refine bl_dr ?_ | refine bl_dN ?_ _ | refine bl_tr ?_ (by assumption)))⟩
set_option maxHeartbeats 400000 in
theorem bounds_3_false_true (which : Int) (hq : (IntKind.u64.wrap which).tmod 8 = 3) (w : World) : Calls Try.prog 3 #[.int .i64 which, .bool false, .bool true] w (RetB (.bool true) w) := by
  go_enter Try.func3, Try.ntmps3
  go_wp2_with fail
  refine (awake6_any _).mono ?_
  rintro e w1 ⟨rfl, hb1⟩
  obtain ⟨hc, hf⟩ := bcell hb1
  go_wp2_with fail
  refine (termsRight_any _ [(5, false)] 5 5 0 5 5 10957 6 (Lib.hid (by decide)) _ ((TrS.litAt w _ [(5, false)] 1 _ rfl _ rfl (by decide) rfl).below (by repeat (first | exact Below.refl _ _ | refine bl_al ?_ _ | refine bl_dr ?_ | refine bl_dN ?_ _ | refine bl_tr ?_ (by assumption))))).mono ?_
  rintro e w2 ⟨rfl, hb2⟩
  go_wp2_with fail
  go_ret
  exact ⟨rfl, (by repeat (first | exact Below.refl _ _ | refine bl_al ?_ _ | refine bl_dr ?_ | refine bl_dN ?_ _ | refine bl_tr ?_ (by assumption)))⟩
set_option maxHeartbeats 400000 in
theorem bounds_3_true_false (which : Int) (hq : (IntKind.u64.wrap which).tmod 8 = 3) (w : World) : Calls Try.prog 3 #[.int .i64 which, .bool true, .bool false] w (RetB (.bool true) w) := by
  go_enter Try.func3, Try.ntmps3
  go_wp2_with fail
  refine (awake6_any _).mono ?_
  rintro e w1 ⟨rfl, hb1⟩
  obtain ⟨hc, hf⟩ := bcell hb1
  go_wp2_with fail
  refine (termsRight_any _ [(5, false)] 5 5 25 5 5 10957 0 (Lib.hid (by decide)) _ ((TrS.litAt w _ [(5, false)] 1 _ rfl _ rfl (by decide) rfl).below (by repeat (first | exact Below.refl _ _ | refine bl_al ?_ _ | refine bl_dr ?_ | refine bl_dN ?_ _ | refine bl_tr ?_ (by assumption))))).mono ?_
  rintro e w2 ⟨rfl, hb2⟩
  go_wp2_with fail
  go_ret
  exact ⟨rfl, (by repeat (first | exact Below.refl _ _ | refine bl_al ?_ _ | refine bl_dr ?_ | refine bl_dN ?_ _ | refine bl_tr ?_ (by assumption)))⟩
set_option maxHeartbeats 400000 in
theorem bounds_3_true_true (which : Int) (hq : (IntKind.u64.wrap which).tmod 8 = 3) (w : World) : Calls Try.prog 3 #[.int .i64 which, .bool true, .bool true] w (RetB (.bool true) w) := by
  go_enter Try.func3, Try.ntmps3
  go_wp2_with fail
  refine (awake6_any _).mono ?_
  rintro e w1 ⟨rfl, hb1⟩
  obtain ⟨hc, hf⟩ := bcell hb1
  go_wp2_with fail
  refine (termsRight_any _ [(5, false)] 5 5 26 5 5 10957 6 (Lib.hid (by decide)) _ ((TrS.litAt w _ [(5, false)] 1 _ rfl _ rfl (by decide) rfl).below (by repeat (first | exact Below.refl _ _ | refine bl_al ?_ _ | refine bl_dr ?_ | refine bl_dN ?_ _ | refine bl_tr ?_ (by assumption))))).mono ?_
  rintro e w2 ⟨rfl, hb2⟩
  go_wp2_with fail
  go_ret
  exact ⟨rfl, (by repeat (first | exact Below.refl _ _ | refine bl_al ?_ _ | refine bl_dr ?_ | refine bl_dN ?_ _ | refine bl_tr ?_ (by assumption)))⟩
end Go.Proofs.Ytofajlemknkndaa
