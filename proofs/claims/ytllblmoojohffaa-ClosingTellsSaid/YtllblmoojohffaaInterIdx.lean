/- slices.ContainsFunc at int64 with interest.within's own test; interest.within. -/
import Derived.Test.YtllblmoojohffaaInterMath
import Derived.Test.YtllblmoojohffaaLib
namespace Go.Proofs.Ytllblmoojohffaa
open Go.RowKit

set_option maxHeartbeats 400000 in
theorem within_one (x most : Int) (g : Nat) (w : World) (hg : w.cell? ⟨g, 0, none⟩ = some (.int .i64 most)) : Calls Try.prog 60 #[.int .i64 x, .pointer (some ⟨g, 0, none⟩)] w (Ret (.bool (overB most x)) w) := by
  have hp : overB most x = (decide (x < 0) || decide (most < x)) := rfl
  rw [hp]
  clear hp
  by_cases h1 : x < 0
  · have h1' : decide (x < 0) = true := by simpa using h1
    go_enter Try.func60, Try.ntmps60
    go_wp2
    go_ret
    simp only [h1']
    exact Ret.mk _ _
  · have h1' : decide (x < 0) = false := by simpa using h1
    by_cases h2 : most < x
    · have h2' : decide (most < x) = true := by simpa using h2
      go_enter Try.func60, Try.ntmps60
      go_wp2
      go_ret
      exact Ret.mk _ _
    · have h2' : decide (most < x) = false := by simpa using h2
      go_enter Try.func60, Try.ntmps60
      go_wp2
      go_ret
      exact Ret.mk _ _

/-- The answer's number is at least 0 just where some number is out of bounds. -/
def WithinIdx (r0 : Bool) (w : World) (e : Ending) (w' : World) : Prop := ∃ r : Int, e = .returned (.int .i64 r) ∧ decide (0 ≤ r) = r0 ∧ w = w'

set_option maxHeartbeats 400000 in
theorem within_index (v : Value) (xs : List Int) (most : Int) (gm : Nat) (r0 : Bool) (hr0 : Hid (xs.any (overB most) = r0)) (w : World) (hv : Sl .i64 w v xs) (hg : w.cell? ⟨gm, 0, none⟩ = some (.int .i64 most)) :
    Calls Try.prog 78 #[v, .func (.func 60) #[] #[.pointer (some ⟨gm, 0, none⟩)]] w (WithinIdx r0 w) := by
  have HV := Lib.hid hv
  have HG := Lib.hid hg
  clear hg
  obtain ⟨ao, cap, rfl, h1, ⟨h2, _⟩, h3⟩ := hv
  clear h3
  unfold maxLen at h2
  go_enter Try.func78, Try.ntmps78
  go_wp2
  go_loopg [8] xs.length (fun g i wr => ∃ k : Nat, k + g = xs.length ∧ i = .int .i64 k ∧ w = wr ∧ Hid (∀ j, j < k → (overB most) (xs.getD j 0) = false))
  case atStart => exact ⟨0, by omega, rfl, rfl, fun j hj => absurd hj (by omega)⟩
  case round =>
    obtain ⟨k, hkg, rfl, rfl, HN⟩ := hrel
    cases gk with
    | zero =>
      have hlt : ¬ ((k : Int) < (xs.length : Int)) := by omega
      go_wp2
      go_ret
      refine ⟨-1, rfl, ?_, rfl⟩
      rw [← hr0.out]
      simp only [show decide ((0 : Int) ≤ -1) = false from by decide]
      symm
      rw [List.any_eq_false]
      intro y hy
      obtain ⟨j, hj, rfl⟩ := List.getElem_of_mem hy
      have := HN.out j (by omega)
      simpa [List.getD, hj] using this
    | succ g =>
      have hlt : (k : Int) < (xs.length : Int) := by omega
      have hkn : k < xs.length := by omega
      obtain ⟨b, o, x, rfl, hcell, hx⟩ := HV.out.get (i := k) hkn
      have HC := within_one x most gm w HG.out
      cases hp : (overB most) x with
      | true =>
        have HC' : Calls Try.prog 60 #[.int .i64 x, .pointer (some ⟨gm, 0, none⟩)] w (Ret (.bool true) w) := by rw [← hp]; exact HC
        have HP := Lib.hid hp
        clear hp HC
        go_wp2_with (go_at_call 60; refine HC'.mono ?_; rintro e w' ⟨rfl, rfl⟩)
        go_ret
        refine ⟨k, rfl, ?_, rfl⟩
        rw [← hr0.out]
        have e1 : xs.any (overB most) = true := by
          rw [List.any_eq_true]
          refine ⟨x, ?_, HP.out⟩
          rw [← hx.out]
          simp [List.getD, hkn]
        rw [e1]
        simp
      | false =>
        have HC' : Calls Try.prog 60 #[.int .i64 x, .pointer (some ⟨gm, 0, none⟩)] w (Ret (.bool false) w) := by rw [← hp]; exact HC
        have HP := Lib.hid hp
        clear hp HC
        go_wp2_with (go_at_call 60; refine HC'.mono ?_; rintro e w' ⟨rfl, rfl⟩)
        go_roundg g
        case measure => omega
        case rel => exact ⟨k + 1, by omega, by go_num, rfl, fun j hj => by
          rcases Nat.lt_succ_iff_lt_or_eq.1 hj with h' | rfl
          · exact HN.out j h'
          · rw [hx.out]; exact HP.out⟩

theorem within_contains (v : Value) (xs : List Int) (most : Int) (gm : Nat) (r0 : Bool) (hr0 : Hid (xs.any (overB most) = r0)) (w : World) (hv : Sl .i64 w v xs) (hg : w.cell? ⟨gm, 0, none⟩ = some (.int .i64 most)) :
    Calls Try.prog 59 #[v, .func (.func 60) #[] #[.pointer (some ⟨gm, 0, none⟩)]] w (Ret (.bool r0) w) := by
  have HG := Lib.hid hg
  clear hg
  cases r0 with
  | true =>
    go_enter Try.func59, Try.ntmps59
    go_wp2_with fail
    refine (within_index v xs most gm true hr0 _ hv HG.out).mono ?_
    rintro e w' ⟨r, rfl, hr, rfl⟩
    go_wp2_with fail
    go_ret
    exact Ret.mk _ _
  | false =>
    go_enter Try.func59, Try.ntmps59
    go_wp2_with fail
    refine (within_index v xs most gm false hr0 _ hv HG.out).mono ?_
    rintro e w' ⟨r, rfl, hr, rfl⟩
    go_wp2_with fail
    go_ret
    exact Ret.mk _ _

theorem interWithin_any (v : Value) (xs : List Int) (most : Int) (r0 : Bool) (hr0 : Hid (xs.any (overB most) = !r0)) (w : World) (hv : Sl .i64 w v xs) :
    Calls Try.prog 39 #[v, .int .i64 most] w (RetB (.bool r0) w) := by
  have HV := Lib.hid hv
  obtain ⟨ao, cap, rfl, _⟩ := hv
  have hb0 : Below w.heap.size w (w.alloc (.cells #[.int .i64 most] 2)) := bl_al (Below.refl _ _) _
  have hc : (w.alloc (.cells #[.int .i64 most] 2)).cell? ⟨w.heap.size, 0, none⟩ = some (.int .i64 most) := by
    have h : Blk (w.alloc (.cells #[.int .i64 most] 2)) w.heap.size 2 [.int .i64 most] := heap_alloc_new w _
    rw [h.cell]; rfl
  have HC := Lib.hid hc
  have HB := Lib.hid hb0
  clear hc hb0
  cases r0 with
  | true =>
    go_enter Try.func39, Try.ntmps39
    go_wp2_with fail
    refine (within_contains _ xs most _ false hr0 _ (HV.out.below HB.out) HC.out).mono ?_
    rintro _ w1 ⟨rfl, rfl⟩
    go_wp2
    go_ret
    exact ⟨rfl, HB.out⟩
  | false =>
    go_enter Try.func39, Try.ntmps39
    go_wp2_with fail
    refine (within_contains _ xs most _ true hr0 _ (HV.out.below HB.out) HC.out).mono ?_
    rintro _ w1 ⟨rfl, rfl⟩
    go_wp2
    go_ret
    exact ⟨rfl, HB.out⟩
end Go.Proofs.Ytllblmoojohffaa
