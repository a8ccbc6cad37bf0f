/- lombardref10.Into: how an amount goes into balances in an order, or why not, as the document says it. -/
import Derived.Test.YtbiiejolemcifaaFallInto
import Derived.Test.YtbiiejolemcifaaInI
import Derived.Deep.QuietTactic
import Derived.BigQuiet
namespace Go.Proofs.Ytbiiejolemcifaa
open Go.RowKit

set_option maxHeartbeats 400000 in
theorem refMay_any (x : Int) (r0 : Bool) (hr0 : Hid (badMoney x = !r0)) (w : World) : Calls Try.prog 72 #[.int .i64 x] w (Ret (.bool r0) w) := by
  have h := hr0.out
  by_cases h1 : 0 ≤ x
  · by_cases h2 : x ≤ 1000000000000000
    · have e : r0 = true := by
        have hb : badMoney x = false := by simp [badMoney]; omega
        rw [hb] at h
        revert h; cases r0 <;> decide
      subst e
      clear h hr0
      go_enter Try.func72, Try.ntmps72
      go_wp2
      go_ret
      exact Ret.mk _ _
    · have e : r0 = false := by
        have hb : badMoney x = true := by simp [badMoney]; omega
        rw [hb] at h
        revert h; cases r0 <;> decide
      subst e
      clear h hr0
      have h2' : decide (x ≤ 1000000000000000) = false := by simpa using h2
      go_enter Try.func72, Try.ntmps72
      go_wp2
      go_ret
      exact Ret.mk _ _
  · have e : r0 = false := by
      have hb : badMoney x = true := by simp [badMoney]; omega
      rw [hb] at h
      revert h; cases r0 <;> decide
    subst e
    clear h hr0
    have h1' : decide (0 ≤ x) = false := by simpa using h1
    go_enter Try.func72, Try.ntmps72
    go_wp2
    go_ret
    exact Ret.mk _ _

theorem take_not {ks : List Int} {n i : Nat} (h : ordT ks n i = true) (hno : ordT ks n (i + 1) = false) : (decide (1 ≤ ks.getD i 0) && decide (ks.getD i 0 ≤ n) && !(ks.take i).contains (ks.getD i 0)) = false := by
  simpa only [ordT, h, Bool.true_and] using hno

set_option maxRecDepth 100000 in
set_option maxHeartbeats 800000 in
theorem refInto_any (v u : Value) (bal ks : List Int) (amount : Int) (r : List Int × Int × Int) (hr : Hid (intoR bal ks amount = r)) (w : World) (hv : Sl .i64 w v bal) (hu : Sl .i64 w u ks) (hn : bal.length ≤ 1000) (hk : ks.length ≤ 1000) :
    Calls Try.prog 53 #[v, u, .int .i64 amount] w (Into3 r w) := by
  have HV := Lib.hid hv
  have HU := Lib.hid hu
  obtain ⟨ao, cap, rfl, h1, ⟨h2, _⟩, h3⟩ := hv
  obtain ⟨ao', cap', rfl, h1', ⟨h2', _⟩, h3'⟩ := hu
  clear h3 h3'
  unfold maxLen at h2 h2'
  have HRO : Hid (ordB ks bal.length = false → r = ([], 0, 1)) := fun h => by rw [← hr.out]; simp only [intoR, h]; simp
  have HRB : Hid (bal.any badMoney = true → r = ([], 0, 1)) := fun h => by rw [← hr.out]; simp only [intoR, h]; simp
  have HRM : Hid (badMoney amount = true → r = ([], 0, 1)) := fun h => by rw [← hr.out]; simp only [intoR, h]; simp
  obtain ⟨i0, hi, hz0, hz1, hz2⟩ := info_parts info_fall
  go_enter Try.func53, Try.ntmps53
  go_wp2_with fail
  go_loopg [9] ks.length (fun g i wr => ∃ k : Nat, k + g = ks.length ∧ i = .int .i64 k ∧ Below w.heap.size w wr ∧ Hid (ordT ks bal.length k = true))
  case atStart => exact ⟨0, by omega, rfl, Below.refl _ _, rfl⟩
  case round =>
    obtain ⟨k, hkg, rfl, hb, hord⟩ := hrel
    cases gk with
    | succ g =>
      have hlt : (k : Int) < (ks.length : Int) := by omega
      have hkn : k < ks.length := by omega
      obtain ⟨b, o, y, rfl, hcell, hy⟩ := (HU.out.below hb).get (i := k) hkn
      have hno : Hid (ordT ks bal.length (k + 1) = false → r = ([], 0, 1)) := fun h => HRO.out (by
        cases e : ordB ks bal.length with
        | false => rfl
        | true =>
          have := ordT_le e (show k + 1 ≤ ks.length from hkn)
          rw [h] at this
          cases this)
      have hcell0 : k = 0 → wr.cell? ⟨b, o, none⟩ = some (.int .i64 y) := fun e => by subst e; exact hcell
      have HC0 := Lib.hid hcell0
      clear hcell0
      by_cases t1 : y < 1
      · obtain rfl : r = ([], 0, 1) := hno.out (by simp only [ordT, hy.out, show decide (1 ≤ y) = false by simp; omega]; simp)
        have t1' : decide (y < 1) = true := by simpa using t1
        go_wp2_with fail
        go_quiet (fail)
        go_wp2_with fail
        go_ret3
        exact ⟨_, rfl, World.ownsRow_nil _ _ _ _, bdN hb _⟩
      · have t1' : decide (y < 1) = false := by simpa using t1
        by_cases t2 : (bal.length : Int) < y
        · obtain rfl : r = ([], 0, 1) := hno.out (by simp only [ordT, hy.out, show decide (y ≤ (bal.length : Int)) = false by simp; omega]; simp)
          have t2' : decide ((bal.length : Int) < y) = true := by simpa using t2
          go_wp2_with fail
          go_quiet (fail)
          go_wp2_with fail
          go_ret3
          exact ⟨_, rfl, World.ownsRow_nil _ _ _ _, bdN hb _⟩
        · have t2' : decide ((bal.length : Int) < y) = false := by simpa using t2
          have hkc : k ≤ cap' := by omega
          have hIn : ∀ W, Below w.heap.size w W → Calls Try.prog 74 #[.slice (some ⟨b, o, none⟩) k cap', .int .i64 y] W (Ret (.bool ((ks.take k).contains y)) W) := fun W hW =>
            inI_any _ _ _ _ (Lib.hid rfl) _ ((HU.out.below hW).lo (by omega))
          cases hc : (ks.take k).contains y with
          | true =>
            rw [hc] at hIn
            have HIN := Lib.hid hIn
            obtain rfl : r = ([], 0, 1) := hno.out (by simp only [ordT, hy.out, hc]; simp)
            clear hIn hc
            go_wp2_with fail
            go_quiet ((go_at_call 74; exact Calls.quiet_of_same ((HIN.out _ (bdN hb _)).mono fun _ _ h => ⟨h.1, h.2.symm⟩)))
            go_wp2_with fail
            go_ret3
            exact ⟨_, rfl, World.ownsRow_nil _ _ _ _, bdN hb _⟩
          | false =>
            rw [hc] at hIn
            have HIN := Lib.hid hIn
            have HC := Lib.hid hc
            clear hIn hc
            go_wp2_with fail
            go_quiet ((go_at_call 74; exact Calls.quiet_of_same ((HIN.out _ (bdN hb _)).mono fun _ _ h => ⟨h.1, h.2.symm⟩)))
            go_wp2_with fail
            go_roundg g
            case measure => omega
            case rel => exact ⟨k + 1, by omega, by go_num, bdN hb _, by show _ = _; simp only [ordT, hy.out, HC.out, hord.out]; simp; omega⟩
    | zero =>
      have hlt : ¬ ((k : Int) < (ks.length : Int)) := by omega
      obtain rfl : k = ks.length := by omega
      obtain ⟨w1, hw1⟩ : ∃ w1 : World, w1 = wr := ⟨_, rfl⟩
      subst hw1
      go_wp2_with fail
      go_loopg [10] bal.length (fun g i wr => ∃ k : Nat, k + g = bal.length ∧ i = .int .i64 k ∧ w1 = wr ∧ Hid (∀ j, j < k → badMoney (bal.getD j 0) = false))
      case atStart => exact ⟨0, by omega, rfl, rfl, fun j hj => absurd hj (by omega)⟩
      case round =>
        obtain ⟨k, hkg, rfl, rfl, hbad⟩ := hrel
        cases gk with
        | succ g =>
          have hlt : (k : Int) < (bal.length : Int) := by omega
          have hkn : k < bal.length := by omega
          obtain ⟨b, o, x, rfl, hcell, hx⟩ := (HV.out.below hb).get (i := k) hkn
          cases hbx : badMoney x with
          | true =>
            have hm := refMay_any x false (Lib.hid hbx) w1
            obtain rfl : r = ([], 0, 1) := HRB.out (by rw [List.any_eq_true]; exact ⟨x, by rw [← hx.out]; simp [List.getD, hkn], hbx⟩)
            clear hbx
            go_wp2_with (go_at_call 72; refine hm.mono ?_; rintro e w' ⟨rfl, rfl⟩)
            go_ret3
            exact ⟨_, rfl, World.ownsRow_nil _ _ _ _, hb⟩
          | false =>
            have hm := refMay_any x true (Lib.hid hbx) w1
            have HB := Lib.hid hbx
            clear hbx
            go_wp2_with (go_at_call 72; refine hm.mono ?_; rintro e w' ⟨rfl, rfl⟩)
            go_roundg g
            case measure => omega
            case rel => exact ⟨k + 1, by omega, by go_num, rfl, fun j hj => by
              rcases Nat.lt_succ_iff_lt_or_eq.1 hj with h' | rfl
              · exact hbad.out j h'
              · rw [hx.out]; exact HB.out⟩
        | zero =>
          have hlt : ¬ ((k : Int) < (bal.length : Int)) := by omega
          obtain rfl : k = bal.length := by omega
          have HBA : Hid (bal.any badMoney = false) := by
            show _ = _
            rw [List.any_eq_false]
            intro y hy
            obtain ⟨j, hj, rfl⟩ := List.getElem_of_mem hy
            have := hbad.out j hj
            simpa [List.getD, hj] using this
          cases hbm : badMoney amount with
          | true =>
            have hm := refMay_any amount false (Lib.hid hbm) w1
            obtain rfl : r = ([], 0, 1) := HRM.out hbm
            clear hbm
            go_wp2_with (go_at_call 72; refine hm.mono ?_; rintro e w' ⟨rfl, rfl⟩)
            go_ret3
            exact ⟨_, rfl, World.ownsRow_nil _ _ _ _, hb⟩
          | false =>
            have hm := refMay_any amount true (Lib.hid hbm) w1
            have HFR : Hid (r = ((filled bal ks amount).1, (filled bal ks amount).2, 0)) := by
              show _ = _
              rw [← hr.out]
              have e1 : ordB ks bal.length = true := hord.out
              simp only [intoR, e1, HBA.out, hbm]
              simp
            have hA := badMoney_no hbm
            clear hbm
            go_wp2_with (first
              | (go_at_call 72; refine hm.mono ?_; rintro e w' ⟨rfl, rfl⟩)
              | (at_make; refine wpList_make_full _ rfl _ _ 23 rfl w.heap.size 2 i0 (.int .i64 0) 1 Try.underlying23 hi hz0 hz1 _ _ _ _ bal.length rfl rfl rfl rfl (by rw [hz2]; omega) (by unfold maxLen; omega) hb.size ?_; intro w2 hown2 hgrow2))
            obtain ⟨cur0, hB0, _, _, hcl0, hct0, _⟩ := blk_of_own hown2
            have hc0 : cur0 = List.replicate bal.length (.int .i64 0) := by
              rw [← List.take_of_length_le (show cur0.length ≤ bal.length * 1 by omega), hct0, Nat.mul_one]
              exact toList_madeCells_one _ _
            have hb2 : Below w.heap.size w w2 := bl_tr hb (grown_below1 hgrow2)
            have hz2' := hb.size
            subst hc0
            clear hown2 hgrow2 hcl0 hct0
            have HF : Hid (∀ i, 0 ≤ (fill bal ks amount i).2 ∧ (fill bal ks amount i).2 ≤ amount) := fun i => fill_left hA.1 (fun x hx => (bad_no HBA.out x hx).1) i
            go_loopg [2, 12] ks.length (fun g a i wr => ∃ (k : Nat) (cur : List Value) (A : Int) (L : List Int), k + g = ks.length ∧ a = .int .i64 A ∧ i = .int .i64 k ∧ Hid (fill bal ks amount k = (L, A)) ∧ Blk wr w1.heap.size 2 cur ∧ Hid (cur = L.map (Value.int .i64)) ∧ Below w.heap.size w wr)
            case atStart => exact ⟨0, _, amount, List.replicate bal.length 0, by omega, rfl, rfl, rfl, hB0, by show _ = _; simp, hb2⟩
            case round =>
              obtain ⟨k, cur, A, L, hkg, rfl, rfl, hfill, hB, HC, hbw⟩ := hrel
              have hfi := HF.out k
              rw [hfill.out] at hfi
              simp only at hfi
              have hlen : Hid (cur.length = bal.length) := by
                show _ = _
                rw [HC.out]
                have := fill_length bal ks amount k
                rw [hfill.out] at this
                simpa using this
              cases gk with
              | succ g =>
                have hlt : (k : Int) < (ks.length : Int) := by omega
                have hkn : k < ks.length := by omega
                obtain ⟨b', o', y, rfl, hcy, hy⟩ := (HU.out.below hbw).get (i := k) hkn
                have hyr := ordT_at hord.out hkn
                rw [hy.out] at hyr
                obtain ⟨m, rfl⟩ : ∃ m : Nat, y = (m : Int) + 1 := ⟨(y - 1).toNat, by omega⟩
                have hmn : m < bal.length := by omega
                obtain ⟨b, o, x, rfl, hcx, hx⟩ := (HV.out.below hbw).get (i := m) hmn
                have hx0 : 0 ≤ x ∧ x ≤ 1000000000000000 := by
                  rw [← hx.out]
                  have := bad_no HBA.out bal[m] (List.getElem_mem hmn)
                  simpa [List.getD, hmn] using this
                obtain ⟨v0, hcv⟩ := hB.some (j := m) (by rw [hlen.out]; exact hmn)
                have hf0 := hB.frozen m
                have HST : Hid (fill bal ks amount (k + 1) = (L.set m (min A x), A - min A x)) := by
                  have e1 : ((m : Int) + 1 - 1).toNat = m := by omega
                  show _ = _
                  simp only [fill, hy.out, e1, hx.out, hfill.out]
                have X := Lib.hid (And.intro hB hbw)
                clear hB hbw hyr
                by_cases hmin : A ≤ x
                · have HM := Lib.hid (show min A x = A by omega)
                  go_wp2_with fail
                  go_roundg g
                  case measure => omega
                  case rel => exact ⟨k + 1, cur.set m (.int .i64 A), 0, L.set m A, by omega, rfl, by go_num, by show _ = _; rw [HST.out, HM.out, Int.sub_self], X.out.1.set m _, by show _ = _; rw [HC.out]; simp [List.map_set], X.out.2.setCell (by omega) _⟩
                · have HM := Lib.hid (show min A x = x by omega)
                  go_wp2_with fail
                  go_roundg g
                  case measure => omega
                  case rel => exact ⟨k + 1, cur.set m (.int .i64 x), A - x, L.set m x, by omega, rfl, by go_num, by show _ = _; rw [HST.out, HM.out], X.out.1.set m _, by show _ = _; rw [HC.out]; simp [List.map_set], X.out.2.setCell (by omega) _⟩
              | zero =>
                have hlt : ¬ ((k : Int) < (ks.length : Int)) := by omega
                obtain rfl : k = ks.length := by omega
                have hfin : filled bal ks amount = (L, A) := hfill.out
                obtain rfl : r = (L, A, 0) := by rw [HFR.out, hfin]
                have X := Lib.hid (And.intro hB hbw)
                clear hB hbw hfin
                go_wp2_with fail
                go_ret3
                have hLl : L.length = bal.length := by
                  have := fill_length bal ks amount ks.length
                  rwa [hfill.out] at this
                refine ⟨_, rfl, ?_, X.out.2⟩
                simp only
                rw [hLl]
                refine own_of_blk X.out.1 hb.size (Nat.le_refl _) (by unfold maxLen; omega) (by rw [hlen.out, Nat.mul_one]) ?_
                rw [List.take_of_length_le (by rw [hlen.out, Nat.mul_one]; exact Nat.le_refl _), HC.out]
end Go.Proofs.Ytbiiejolemcifaa
