/- lombardhelp.Same and Plain at int64: whether two lists are alike. -/
import Derived.Test.YtllblmoojohffaaLib
import Derived.Deep.QuietTactic
import Derived.BigQuiet
namespace Go.Proofs.Ytllblmoojohffaa
open Go.RowKit

theorem eq64_any (x y : Int) (w : World) : Calls Try.prog 57 #[.int .i64 x, .int .i64 y] w (Ret (.bool (x == y)) w) := by
  go_enter Try.func57, Try.ntmps57
  go_wp2
  all_goals
    go_ret
    exact Ret.mk _ _

theorem getD_ext {xs ys : List Int} (hl : xs.length = ys.length) (h : ∀ j, j < xs.length → xs.getD j 0 = ys.getD j 0) : xs = ys := by
  refine List.ext_getElem hl fun i h1 h2 => ?_
  have := h i h1
  simpa [List.getD, h1, h2] using this

set_option maxHeartbeats 400000 in
theorem same64_any (v u : Value) (xs ys : List Int) (r : Bool) (hr : Hid ((xs == ys) = r)) (w : World) (hv : Sl .i64 w v xs) (hu : Sl .i64 w u ys) :
    Calls Try.prog 56 #[v, u, .func (.func 57) #[] #[]] w (RetB (.bool r) w) := by
  have HV := Lib.hid hv
  have HU := Lib.hid hu
  obtain ⟨ao, cap, rfl, h1, h2, h3⟩ := hv
  obtain ⟨ao', cap', rfl, h1', h2', h3'⟩ := hu
  obtain ⟨h2, _⟩ := h2
  obtain ⟨h2', _⟩ := h2'
  unfold maxLen at h2 h2'
  clear h3 h3'
  by_cases hl : xs.length = ys.length
  · have hlb : ((xs.length : Int) != (ys.length : Int)) = false := by simp [hl]
    have HL := Lib.hid hl; clear hl
    go_enter Try.func56, Try.ntmps56
    go_wp2
    go_loopw [7] (fun i wr => ∃ k : Nat, k ≤ xs.length ∧ i = .int .i64 k ∧ Hid (∀ j, j < k → xs.getD j 0 = ys.getD j 0) ∧ Below w.heap.size w wr) (fun i _ => xs.length - (intOf i).toNat)
    case atStart => exact ⟨0, Nat.zero_le _, rfl, fun j hj => absurd hj (by omega), Below.refl _ _⟩
    case round =>
      obtain ⟨k, hk, rfl, HN, hb⟩ := hrel
      by_cases hlt : k < xs.length
      · have hlt' : k < ys.length := by have := HL.out; omega
        obtain ⟨b, o, rfl, hcell⟩ := (HV.out.below hb).at hlt
        obtain ⟨b', o', rfl, hcell'⟩ := (HU.out.below hb).at hlt'
        go_wp2_with fail
        go_quiet ((go_at_call 57; exact Calls.quiet_of_same ((eq64_any _ _ _).mono fun _ _ h => ⟨h.1, h.2.symm⟩)))
        go_wp2
        · go_ret
          have h : (!xs[k] == ys[k]) = true := by assumption
          have e : r = false := by
            rw [← hr.out]
            simp at h ⊢
            intro hxy
            apply h
            subst hxy
            rfl
          subst e
          exact ⟨rfl, bdN hb _⟩
        · have h : (!xs[k] == ys[k]) = false := by assumption
          go_roundw
          case rel => exact ⟨k + 1, hlt, by go_num, fun j hj => by
            rcases Nat.lt_succ_iff_lt_or_eq.1 hj with h' | rfl
            · exact HN.out j h'
            · simpa [List.getD, hlt, hlt'] using h, bdN hb _⟩
          case measure => simp [intOf]; omega
      · have e : r = true := by
          rw [← hr.out]
          simp
          exact getD_ext HL.out fun j hj => HN.out j (by omega)
        subst e
        go_wp2
        go_ret
        exact ⟨rfl, hb⟩
  · have hlb : ((xs.length : Int) != (ys.length : Int)) = true := by simp; omega
    go_enter Try.func56, Try.ntmps56
    go_wp2
    go_ret
    have e : r = false := by rw [← hr.out]; simp; intro h; exact hl (by rw [h])
    subst e
    exact (Ret.mk _ _).b

theorem plain64_any (v u : Value) (xs ys : List Int) (r : Bool) (hr : Hid ((xs == ys) = r)) (w : World) (hv : Sl .i64 w v xs) (hu : Sl .i64 w u ys) :
    Calls Try.prog 37 #[v, u] w (RetB (.bool r) w) := by
  go_enter Try.func37, Try.ntmps37
  go_wp2_with (go_at_call 56; refine (same64_any _ _ xs ys r hr _ hv hu).mono ?_; rintro e w' ⟨rfl, hb⟩)
  go_ret
  exact ⟨rfl, hb⟩
end Go.Proofs.Ytllblmoojohffaa
