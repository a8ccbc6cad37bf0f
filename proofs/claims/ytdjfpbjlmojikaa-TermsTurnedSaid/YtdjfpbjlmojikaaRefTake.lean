/- lombardhelp.Take and lombardref07.Take: the number of eight bytes; the event that bytes are. -/
import Derived.Test.YtdjfpbjlmojikaaEvTake
namespace Go.Proofs.Ytdjfpbjlmojikaa
open Go.RowKit

theorem uwrap_step (X c : Int) : IntKind.u64.wrap (IntKind.u64.wrap X * 256 + c) = IntKind.u64.wrap (X * 256 + c) := by
  rw [u64_wrap, u64_wrap, u64_wrap]
  omega
theorem uacc_step {X c : Int} (h0 : 0 ≤ c) (h1 : c < 256) : bits .or .u64 (IntKind.u64.wrap (IntKind.u64.wrap X * 256)) c = IntKind.u64.wrap (X * 256 + c) := by
  rw [bits_or_u64 h0 h1, uwrap_step]
theorem i64_u64 (X : Int) : IntKind.i64.wrap (IntKind.u64.wrap X) = IntKind.i64.wrap X := by
  rw [i64_wrap, i64_wrap, u64_wrap]
  split <;> split <;> omega

set_option maxHeartbeats 400000 in
theorem helpTake_any (v : Value) (xs : List Int) (at_ : Nat) (hby : Hid (Byts xs)) (w : World) (hv : Sl .u8 w v xs) (hat : at_ + 8 ≤ xs.length) (hn : xs.length ≤ 1000000) :
    Calls Try.prog 37 #[v, .int .i64 at_] w (Ret (.int .i64 (num8 (xs.drop at_))) w) := by
  have HV := Lib.hid hv
  obtain ⟨ao, cap, rfl, h1, ⟨h2, _⟩, h3⟩ := hv
  clear h3
  unfold maxLen at h2
  have HD : Hid (num8 (xs.drop at_) = IntKind.i64.wrap (beNat ((xs.drop at_).take 8))) := rfl
  rw [HD.out]
  go_enter Try.func37, Try.ntmps37
  go_wp2
  go_loopg [5, 6] 8 (fun gg a i wr => ∃ k : Nat, k + gg = 8 ∧ i = .int .i64 k ∧ a = .int .u64 (IntKind.u64.wrap (beNat ((xs.drop at_).take k))) ∧ w = wr)
  case atStart => exact ⟨0, by omega, rfl, rfl, rfl⟩
  case round =>
    obtain ⟨k, hkg, rfl, rfl, rfl⟩ := hrel
    cases gk with
    | zero =>
      have hlt : ¬ ((k : Int) < 8) := by omega
      obtain rfl : k = 8 := by omega
      go_wp2
      go_ret
      refine ⟨ret_int ?_, rfl⟩
      first | exact (i64_u64 _) | (rw [← IntWalk.i64_left, i64_u64])
    | succ gg =>
      have hlt : (k : Int) < 8 := by omega
      obtain ⟨b, o, x, rfl, hcell, HX⟩ := HV.out.get (i := at_ + k) (by omega)
      have hx : 0 ≤ x ∧ x < 256 := by rw [← HX.out]; exact hby.out.getD (by omega)
      have HS : Hid (bits .or .u64 (IntKind.u64.wrap (IntKind.u64.wrap (beNat ((xs.drop at_).take k)) * 256)) x = IntKind.u64.wrap (beNat ((xs.drop at_).take (k + 1)))) := by
        show _ = _
        rw [uacc_step hx.1 hx.2, beNat_succ (xs.drop at_) (by simp; omega), ← HX.out]
        simp [List.getD]
      have hk8 : k < 8 := by omega
      go_wp2
      go_roundg gg
      case measure => omega
      case rel => exact ⟨k + 1, by omega, by go_num, congrArg (Value.int .u64) HS.out, rfl⟩

set_option maxHeartbeats 800000 in
theorem refEvTake_any (v : Value) (xs : List Int) (hby : Hid (Byts xs)) (w : World) (hv : Sl .u8 w v xs) (hn : xs.length ≤ 1000000) : Calls Try.prog 18 #[v] w (RetB (takeV xs) w) := by
  have HV := Lib.hid hv
  obtain ⟨ao, cap, rfl, h1, ⟨h2, _⟩, h3⟩ := hv
  clear h3
  unfold maxLen at h2
  by_cases hs : xs.length < 40
  · have e1 : takeV xs = .tuple #[evV 0 0 0 0 0, .int .i64 3] := by simp [takeV, hs]
    rw [e1]
    have d1 : decide ((xs.length : Int) < 40) = true := by simp; omega
    clear hs e1
    go_enter Try.func18, Try.ntmps18
    go_wp2
    refine bodyPost_ret (v := .tuple #[evV 0 0 0 0 0, .int .i64 3]) (by simp [results, Try.results18, go_sem, evV]) rfl ⟨rfl, (by repeat (first | with_reducible exact Below.refl _ _ | (with_reducible refine bl_sc ?_ ?hge; case hge => (first | exact Nat.le_refl _ | omega)) | with_reducible refine bl_al ?_ _ | with_reducible refine bl_dr ?_ | with_reducible refine bl_dN ?_ _ | (refine bl_tr ?_ (by assumption)) | (refine bl_gr ?_ (by assumption) (by first | exact Nat.le_refl _ | omega)) | exact Below.refl _ _ | refine bl_al ?_ _ | refine bl_dr ?_ | refine bl_dN ?_ _))⟩
  · have d1 : decide ((xs.length : Int) < 40) = false := by simp; omega
    by_cases hs2 : 40 < xs.length
    · have e1 : takeV xs = .tuple #[evV 0 0 0 0 0, .int .i64 4] := by simp [takeV, hs, hs2]
      rw [e1]
      have d2 : decide ((40 : Int) < (xs.length : Int)) = true := by simp; omega
      clear hs hs2 e1
      go_enter Try.func18, Try.ntmps18
      go_wp2
      refine bodyPost_ret (v := .tuple #[evV 0 0 0 0 0, .int .i64 4]) (by simp [results, Try.results18, go_sem, evV]) rfl ⟨rfl, (by repeat (first | with_reducible exact Below.refl _ _ | (with_reducible refine bl_sc ?_ ?hge; case hge => (first | exact Nat.le_refl _ | omega)) | with_reducible refine bl_al ?_ _ | with_reducible refine bl_dr ?_ | with_reducible refine bl_dN ?_ _ | (refine bl_tr ?_ (by assumption)) | (refine bl_gr ?_ (by assumption) (by first | exact Nat.le_refl _ | omega)) | exact Below.refl _ _ | refine bl_al ?_ _ | refine bl_dr ?_ | refine bl_dN ?_ _))⟩
    · have hlen : xs.length = 40 := by omega
      have e1 : takeV xs = .tuple #[evV (num8 (xs.drop 0)) (num8 (xs.drop 8)) (num8 (xs.drop 16)) (num8 (xs.drop 24)) (num8 (xs.drop 32)), .int .i64 0] := by
        simp [takeV, hlen]
      rw [e1]
      have d2 : decide ((40 : Int) < (xs.length : Int)) = false := by simp; omega
      have HL := Lib.hid hlen
      have w0 : IntKind.i64.wrap (num8 (xs.drop 0)) = num8 (xs.drop 0) := IntWalk.i64_in _ (num8_range _)
      have w1 : IntKind.i64.wrap (num8 (xs.drop 8)) = num8 (xs.drop 8) := IntWalk.i64_in _ (num8_range _)
      have w2 : IntKind.i64.wrap (num8 (xs.drop 16)) = num8 (xs.drop 16) := IntWalk.i64_in _ (num8_range _)
      have w4 : IntKind.i64.wrap (num8 (xs.drop 32)) = num8 (xs.drop 32) := IntWalk.i64_in _ (num8_range _)
      clear hs hs2 e1 hlen
      go_enter Try.func18, Try.ntmps18
      go_wp2_with fail
      refine (helpTake_any _ xs 0 hby _ (HV.out.alloc _) (by rw [HL.out]; omega) hn).mono ?_
      rintro e w' ⟨rfl, rfl⟩
      go_wp2_with fail
      refine (helpTake_any _ xs 8 hby _ (HV.out.alloc _) (by rw [HL.out]; omega) hn).mono ?_
      rintro e w' ⟨rfl, rfl⟩
      go_wp2_with fail
      refine (helpTake_any _ xs 16 hby _ (HV.out.alloc _) (by rw [HL.out]; omega) hn).mono ?_
      rintro e w' ⟨rfl, rfl⟩
      go_wp2_with fail
      refine (helpTake_any _ xs 24 hby _ (HV.out.alloc _) (by rw [HL.out]; omega) hn).mono ?_
      rintro e w' ⟨rfl, rfl⟩
      go_wp2_with fail
      refine (helpTake_any _ xs 32 hby _ (HV.out.alloc _) (by rw [HL.out]; omega) hn).mono ?_
      rintro e w' ⟨rfl, rfl⟩
      go_wp2
      refine bodyPost_ret (v := .tuple #[evV (num8 (xs.drop 0)) (num8 (xs.drop 8)) (num8 (xs.drop 16)) (num8 (xs.drop 24)) (num8 (xs.drop 32)), .int .i64 0]) (by simp [results, Try.results18, go_sem, evV]) rfl ⟨rfl, (by repeat (first | with_reducible exact Below.refl _ _ | (with_reducible refine bl_sc ?_ ?hge; case hge => (first | exact Nat.le_refl _ | omega)) | with_reducible refine bl_al ?_ _ | with_reducible refine bl_dr ?_ | with_reducible refine bl_dN ?_ _ | (refine bl_tr ?_ (by assumption)) | (refine bl_gr ?_ (by assumption) (by first | exact Nat.le_refl _ | omega)) | exact Below.refl _ _ | refine bl_al ?_ _ | refine bl_dr ?_ | refine bl_dN ?_ _))⟩
end Go.Proofs.Ytdjfpbjlmojikaa
