/- slices.ContainsFunc at int64 with pool.Bear's own test: whether any number is out of its bounds. -/
import Derived.Test.YtllblmoojohffaaPoolR
namespace Go.Proofs.Ytllblmoojohffaa
open Go.RowKit

/-- below 0, or above the greatest amount -/
def notMay (x : Int) : Bool := !may0 x
theorem bearmay_one (x : Int) (w : World) : Calls Try.prog 67 #[.int .i64 x] w (Ret (.bool (notMay x)) w) := by
  cases h : may0 x with
  | true =>
    have hp : notMay x = false := by simp [notMay, h]
    rw [hp]
    have H := Lib.hid h
    clear h hp
    go_enter Try.func67, Try.ntmps67
    go_wp2_with fail
    refine (poolMay_is H.out _).mono ?_
    rintro _ w1 ⟨rfl, rfl⟩
    go_wp2
    go_ret
    exact Ret.mk _ _
  | false =>
    have hp : notMay x = true := by simp [notMay, h]
    rw [hp]
    have H := Lib.hid h
    clear h hp
    go_enter Try.func67, Try.ntmps67
    go_wp2_with fail
    refine (poolMay_is H.out _).mono ?_
    rintro _ w1 ⟨rfl, rfl⟩
    go_wp2
    go_ret
    exact Ret.mk _ _

/-- The answer's number is at least 0 just where some number is out of bounds. -/
def BearmayIdx (r0 : Bool) (w : World) (e : Ending) (w' : World) : Prop := ∃ r : Int, e = .returned (.int .i64 r) ∧ decide (0 ≤ r) = r0 ∧ w = w'

set_option maxHeartbeats 400000 in
theorem bearmay_index (v : Value) (xs : List Int) (r0 : Bool) (hr0 : Hid (xs.any (notMay) = r0)) (w : World) (hv : Sl .i64 w v xs) :
    Calls Try.prog 78 #[v, .func (.func 67) #[] #[]] w (BearmayIdx r0 w) := by
  have HV := Lib.hid hv
  obtain ⟨ao, cap, rfl, h1, ⟨h2, _⟩, h3⟩ := hv
  clear h3
  unfold maxLen at h2
  go_enter Try.func78, Try.ntmps78
  go_wp2
  go_loopg [8] xs.length (fun g i wr => ∃ k : Nat, k + g = xs.length ∧ i = .int .i64 k ∧ w = wr ∧ Hid (∀ j, j < k → (notMay) (xs.getD j 0) = false))
  case atStart => exact ⟨0, by omega, rfl, rfl, fun j hj => absurd hj (by omega)⟩
  case round =>
    obtain ⟨k, hkg, rfl, rfl, HN⟩ := hrel
    cases gk with
    | zero =>
      have hlt : ¬ ((k : Int) < (xs.length : Int)) := by omega
      go_wp2
      go_ret
      refine ⟨-1, rfl, ?_, rfl⟩
      rw [← hr0.out]
      simp only [show decide ((0 : Int) ≤ -1) = false from by decide]
      symm
      rw [List.any_eq_false]
      intro y hy
      obtain ⟨j, hj, rfl⟩ := List.getElem_of_mem hy
      have := HN.out j (by omega)
      simpa [List.getD, hj] using this
    | succ g =>
      have hlt : (k : Int) < (xs.length : Int) := by omega
      have hkn : k < xs.length := by omega
      obtain ⟨b, o, x, rfl, hcell, hx⟩ := HV.out.get (i := k) hkn
      have HC := bearmay_one x w
      cases hp : (notMay) x with
      | true =>
        have HC' : Calls Try.prog 67 #[.int .i64 x] w (Ret (.bool true) w) := by rw [← hp]; exact HC
        have HP := Lib.hid hp
        clear hp HC
        go_wp2_with (go_at_call 67; refine HC'.mono ?_; rintro e w' ⟨rfl, rfl⟩)
        go_ret
        refine ⟨k, rfl, ?_, rfl⟩
        rw [← hr0.out]
        have e1 : xs.any (notMay) = true := by
          rw [List.any_eq_true]
          refine ⟨x, ?_, HP.out⟩
          rw [← hx.out]
          simp [List.getD, hkn]
        rw [e1]
        simp
      | false =>
        have HC' : Calls Try.prog 67 #[.int .i64 x] w (Ret (.bool false) w) := by rw [← hp]; exact HC
        have HP := Lib.hid hp
        clear hp HC
        go_wp2_with (go_at_call 67; refine HC'.mono ?_; rintro e w' ⟨rfl, rfl⟩)
        go_roundg g
        case measure => omega
        case rel => exact ⟨k + 1, by omega, by go_num, rfl, fun j hj => by
          rcases Nat.lt_succ_iff_lt_or_eq.1 hj with h' | rfl
          · exact HN.out j h'
          · rw [hx.out]; exact HP.out⟩

theorem bearmay_contains (v : Value) (xs : List Int) (r0 : Bool) (hr0 : Hid (xs.any (notMay) = r0)) (w : World) (hv : Sl .i64 w v xs) :
    Calls Try.prog 59 #[v, .func (.func 67) #[] #[]] w (Ret (.bool r0) w) := by
  cases r0 with
  | true =>
    go_enter Try.func59, Try.ntmps59
    go_wp2_with fail
    refine (bearmay_index v xs true hr0 _ hv).mono ?_
    rintro e w' ⟨r, rfl, hr, rfl⟩
    go_wp2_with fail
    go_ret
    exact Ret.mk _ _
  | false =>
    go_enter Try.func59, Try.ntmps59
    go_wp2_with fail
    refine (bearmay_index v xs false hr0 _ hv).mono ?_
    rintro e w' ⟨r, rfl, hr, rfl⟩
    go_wp2_with fail
    go_ret
    exact Ret.mk _ _
end Go.Proofs.Ytllblmoojohffaa
