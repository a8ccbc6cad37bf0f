/- fall.may, ordered, into and Into: how an amount goes into balances in an order, or why not. -/
import Derived.Test.YtbiiejolemcifaaFallMath
import Derived.Test.YtbiiejolemcifaaIdxFallmay
namespace Go.Proofs.Ytbiiejolemcifaa
open Go.RowKit

theorem fallMay_any (v : Value) (xs : List Int) (r0 : Bool) (hr0 : Hid (xs.any badMoney = !r0)) (w : World) (hv : Sl .i64 w v xs) :
    Calls Try.prog 66 #[v] w (Ret (.bool r0) w) := by
  cases r0 with
  | true =>
    go_enter Try.func66, Try.ntmps66
    go_wp2_with fail
    refine (fallmay_contains v xs false hr0 _ hv).mono ?_
    rintro e w' ⟨rfl, rfl⟩
    go_wp2_with fail
    go_ret
    exact Ret.mk _ _
  | false =>
    go_enter Try.func66, Try.ntmps66
    go_wp2_with fail
    refine (fallmay_contains v xs true hr0 _ hv).mono ?_
    rintro e w' ⟨rfl, rfl⟩
    go_wp2_with fail
    go_ret
    exact Ret.mk _ _

theorem info_bool : (Try.prog.info? 4).map (fun i => (i.zero, i.size, i.bytes)) = some (some (.bool false), 1, 1) := by kernel_rfl
theorem info_fall : (Try.prog.info? 2).map (fun i => (i.zero, i.size, i.bytes)) = some (some (.int .i64 0), 1, 8) := by kernel_rfl

set_option maxHeartbeats 400000 in
theorem ordered_any (v : Value) (ks : List Int) (n : Nat) (r0 : Bool) (hr0 : Hid (ordB ks n = r0)) (w : World) (hv : Sl .i64 w v ks) (hn : n ≤ 1000) (hk : ks.length ≤ 1000) :
    Calls Try.prog 71 #[v, .int .i64 n] w (RetB (.bool r0) w) := by
  have HV := Lib.hid hv
  obtain ⟨ao, cap, rfl, h1, ⟨h2, _⟩, h3⟩ := hv
  clear h3
  unfold maxLen at h2
  obtain ⟨i0, hi, hz0, hz1, hz2⟩ := info_parts info_bool
  go_enter Try.func71, Try.ntmps71
  go_wp2_with (at_make; refine wpList_make_full _ rfl _ _ 93 rfl w.heap.size 4 i0 (.bool false) 1 Try.underlying93 hi hz0 hz1 _ _ _ _ n rfl rfl rfl rfl (by rw [hz2]; omega) (by unfold maxLen; omega) (Nat.le_refl _) ?_; intro w1 hown1 hgrow1)
  obtain ⟨cur, hB, _, _, hcl, hct, _⟩ := blk_of_own hown1
  have hb1 := grown_below1 hgrow1
  have H1 := Lib.hid (And.intro hB (And.intro hcl (And.intro hct hb1)))
  clear hB hcl hct hb1 hown1 hgrow1
  go_loopg [12] ks.length (fun g i wr => ∃ k : Nat, k + g = ks.length ∧ i = .int .i64 k ∧ Below w.heap.size w wr ∧ Hid (ordT ks n k = true) ∧ ∃ cur, Blk wr w.heap.size 4 cur ∧ Hid (cur.length = n) ∧ Hid (∀ j, j < n → cur[j]? = some (.bool ((ks.take k).contains ((j : Int) + 1)))))
  case atStart =>
    obtain ⟨hB, hcl, hct, hb1⟩ := H1.out
    refine ⟨0, by omega, rfl, hb1, rfl, cur, hB, by show _ = _; omega, fun j hj => ?_⟩
    have : cur = List.replicate n (.bool false) := by
      rw [← List.take_of_length_le (show cur.length ≤ n * 1 by omega), hct]
      rw [Nat.mul_one]
      exact toList_madeCells_one _ _
    rw [this]
    simp [hj]
  case round =>
    obtain ⟨k, hkg, rfl, hb, hord, cur, hB, hcl, hcur⟩ := hrel
    clear H1
    cases gk with
    | zero =>
      have hlt : ¬ ((k : Int) < (ks.length : Int)) := by omega
      obtain rfl : k = ks.length := by omega
      obtain rfl : true = r0 := by rw [← hr0.out]; exact hord.out.symm
      go_wp2
      go_ret
      exact ⟨rfl, hb⟩
    | succ g =>
      have hlt : (k : Int) < (ks.length : Int) := by omega
      have hkn : k < ks.length := by omega
      obtain ⟨b, o, y, rfl, hcell, hy⟩ := (HV.out.below hb).get (i := k) hkn
      have hno : Hid (ordT ks n (k + 1) = false → r0 = false) := fun h => by
        rw [← hr0.out]
        cases e : ordB ks n with
        | false => rfl
        | true =>
          have := ordT_le e (show k + 1 ≤ ks.length from hkn)
          rw [h] at this
          cases this
      by_cases t1 : y < 1
      · obtain rfl : r0 = false := hno.out (by simp only [ordT, hy.out, show decide (1 ≤ y) = false by simp; omega]; simp)
        go_wp2
        go_ret
        exact ⟨rfl, hb⟩
      · by_cases t2 : (n : Int) < y
        · obtain rfl : r0 = false := hno.out (by simp only [ordT, hy.out, show decide (y ≤ n) = false by simp; omega]; simp)
          go_wp2
          go_ret
          exact ⟨rfl, hb⟩
        · obtain ⟨m, rfl⟩ : ∃ m : Nat, y = (m : Int) + 1 := ⟨(y - 1).toNat, by omega⟩
          have hmn : m < n := by omega
          have hcm := hcur.out m hmn
          cases hc : (ks.take k).contains ((m : Int) + 1) with
          | true =>
            obtain rfl : r0 = false := hno.out (by simp only [ordT, hy.out, hc]; simp)
            have hcb : wr.cell? ⟨w.heap.size, m, none⟩ = some (.bool true) := by rw [hB.cell, hcm, hc]
            clear hcm hc
            go_wp2
            go_ret
            exact ⟨rfl, hb⟩
          | false =>
            have hcb : wr.cell? ⟨w.heap.size, m, none⟩ = some (.bool false) := by rw [hB.cell, hcm, hc]
            have hf := hB.frozen m
            have X := Lib.hid (And.intro hB (And.intro hcm hc))
            clear hB hcm hc
            go_wp2
            go_roundg g
            case measure => omega
            case rel =>
              obtain ⟨hB, hcm, hc⟩ := X.out
              refine ⟨k + 1, by omega, by go_num, hb.setCell (Nat.le_refl _) _, ?_, cur.set m (.bool true), hB.set m _, by show _ = _; rw [List.length_set]; exact hcl.out, fun j hj => ?_⟩
              · show _ = _
                simp only [ordT, hy.out, hc, hord.out]
                simp
                omega
              · have e : ks.take (k + 1) = ks.take k ++ [(m : Int) + 1] := by
                  rw [List.take_succ_eq_append_getElem hkn]
                  congr 2
                  rw [← hy.out]
                  simp [List.getD, hkn]
                rw [e, List.getElem?_set]
                by_cases hj2 : m = j
                · subst hj2
                  have := hcl.out
                  simp [show m < cur.length by omega]
                · rw [if_neg hj2, hcur.out j hj]
                  congr 2
                  have : ¬ ((j : Int) + 1 = (m : Int) + 1) := by omega
                  simp [this]
end Go.Proofs.Ytbiiejolemcifaa
