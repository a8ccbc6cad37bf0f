/- slices.Repeat of a one: a list of so many ones. -/
import Derived.Test.YtllblmoojohffaaInterOf
import Derived.Laws.CopyOwn
import Derived.Deep.RegionLaw
import Derived.StillTailTactics
namespace Go.Proofs.Ytllblmoojohffaa
open Go.RowKit EvM

theorem bitsMul_one (n : Nat) (hn : n ≤ 40000) (w : World) : Calls Try.prog 65 #[.int .u64 1, .int .u64 (n : Int)] w (Ret (.tuple #[.int .u64 0, .int .u64 (n : Int)]) w) := by
  have HM := Lib.hid (fun W => mul64_q 1 n 0 n (by omega) (by omega) (by show _ = _; omega) (by show _ = _; omega) W)
  go_enter Try.func65, Try.ntmps65
  go_wp2_with fail
  refine (HM.out _).mono ?_
  rintro _ w1 ⟨rfl, rfl⟩
  go_wp2
  go_ret2
  exact ⟨rfl, rfl⟩
theorem info_rep : (Try.prog.info? 2).map (fun i => (i.zero, i.size, i.bytes)) = some (some (.int .i64 0), 1, 8) := by kernel_rfl
/-- j ones, then zeros. -/
def onesV (n j : Nat) : List Value := List.replicate j (.int .i64 1) ++ List.replicate (n - j) (.int .i64 0)
theorem onesV_length {n j : Nat} (h : j ≤ n) : (onesV n j).length = n := by simp [onesV]; omega
theorem onesV_splice {n j m : Nat} (h : j + m ≤ n) : splice (onesV n j) j (List.replicate m (.int .i64 1)) = onesV n (j + m) := by
  unfold splice onesV
  rw [List.take_left' (by simp), List.length_replicate, List.drop_append, List.drop_of_length_le (by simp), List.nil_append, List.drop_replicate, List.length_replicate, ← List.append_assoc, List.replicate_append_replicate]
  congr 2
  omega
theorem onesV_get {n j i : Nat} (hi : i < j) : (onesV n j)[i]? = some (.int .i64 1) := by
  unfold onesV
  rw [List.getElem?_append_left (by simpa using hi)]
  simp [hi]

theorem made_ones {w w1 : World} {n : Nat} (h : w1.ownsRow w.heap.size 2 1 (.slice (some ⟨w.heap.size, 0, none⟩) n n) n (madeCells (Value.int .i64 0).cells (n * 1)).toList) : Hid (Blk w1 w.heap.size 2 (onesV n 0)) := by
  obtain ⟨cur, hB, _, _, hcl, hct, _⟩ := blk_of_own h
  have : cur = onesV n 0 := by
    rw [← List.take_of_length_le (show cur.length ≤ n * 1 by omega), hct, Nat.mul_one]
    rw [show onesV n 0 = List.replicate n (.int .i64 0) by simp [onesV]]
    exact toList_madeCells_one _ _
  show Blk _ _ _ _
  rw [← this]
  exact hB
theorem one_src {w : World} {b o m : Nat} (hm : m ≤ 1) (h : w.cell? ⟨b, o + 0, none⟩ = some (.int .i64 ([1].getD 0 0))) : ∀ j u, (List.replicate m (Value.int .i64 1))[j]? = some u → w.cell? ((⟨b, o, none⟩ : Addr).add j) = some u := by
  intro j u hu
  obtain ⟨hj, e⟩ := List.getElem?_eq_some_iff.1 hu
  rw [List.length_replicate] at hj
  obtain rfl : j = 0 := by omega
  simp at e
  subst e
  rw [Addr.add_lit]
  exact h

theorem rep_c1 (m : Nat) (s d : Nat) (h : m = min s d) : (List.replicate m (Value.int .i64 1)).length = Nat.min s d := by rw [List.length_replicate, h]
theorem rep_c3 (n j m : Nat) (hj : j ≤ n) (h : j + m ≤ n) : j + (List.replicate m (Value.int .i64 1)).length ≤ (onesV n j).length := by rw [onesV_length hj, List.length_replicate]; exact h
theorem rep_c4 (m : Nat) : ∀ u ∈ List.replicate m (Value.int .i64 1), u.oneCell' = true := by intro u hu; rw [(List.mem_replicate.1 hu).2]; rfl

theorem ones_src {w : World} {g n j m : Nat} {e : TypeId} (h : Blk w g e (onesV n j)) (hm : m ≤ j) : ∀ i u, (List.replicate m (Value.int .i64 1))[i]? = some u → w.cell? ((⟨g, 0, none⟩ : Addr).add i) = some u := by
  intro i u hu
  obtain ⟨hi, e⟩ := List.getElem?_eq_some_iff.1 hu
  rw [List.length_replicate] at hi
  simp at e
  subst e
  rw [Addr.add_lit, h.cell, Nat.zero_add]
  exact onesV_get (by omega)

set_option maxHeartbeats 1600000 in
set_option maxRecDepth 100000 in
theorem repeat_ones (v : Value) (n : Nat) (hn : n ≤ 40000) (w : World) (hv : Sl .i64 w v [1]) :
    Calls Try.prog 48 #[v, .int .i64 (n : Int)] w (RetSl .i64 (List.replicate n 1) w) := by
  have HV := Lib.hid hv
  obtain ⟨ao, cap, rfl, h1, ⟨h2, _⟩, h3⟩ := hv
  obtain ⟨b, o, rfl, hc⟩ := h3 (by simp)
  have c0 := hc 0 (by simp)
  have HC := Lib.hid c0
  clear h3 hc c0
  unfold maxLen at h2
  have wn : IntKind.u64.wrap (n : Int) = n := by rw [IntKind.wrap_u64]; omega
  have wn2 : wrap64 (n : Int) = n := by unfold wrap64; omega
  have d1 : decide ((9223372036854775807 : Int) < (n : Int)) = false := by simp; omega
  have d2 : ¬ (n : Int) < 0 := by omega
  obtain ⟨m, hm⟩ : ∃ m, min 1 n = m := ⟨_, rfl⟩
  have hm1 : m ≤ 1 := by omega
  have hmn : m ≤ n := by omega
  have HM := Lib.hid hm
  clear hm
  obtain ⟨i0, hi, hz0, hz1, hz2⟩ := info_parts info_rep
  simp only [List.length_cons, List.length_nil, Nat.zero_add]
  go_enter Try.func48, Try.ntmps48
  go_wp2_with fail
  refine (bitsMul_one n hn _).mono ?_
  rintro _ w1 ⟨rfl, rfl⟩
  go_wp2_with (first
    | (at_make; refine wpList_make_full _ rfl _ _ 22 rfl w.heap.size 2 i0 (.int .i64 0) 1 Try.underlying22 hi hz0 hz1 _ _ _ _ n rfl rfl rfl rfl (by rw [hz2]; omega) (by unfold maxLen; omega) (Nat.le_refl _) ?_; intro w1 hown1 hgrow1; have HB := made_ones hown1; have hb1 := grown_below1 hgrow1; have hcc := (hb1.cell (p := ⟨b, o + 0, none⟩) (cell_block_lt HC.out)).trans HC.out; have HCC := Lib.hid hcc; clear hown1 hgrow1 hcc)
    | (refine wpList_copy_splice (o := ⟨some 33, _, _, _, _, _⟩) rfl (.tmp 31) (.tmp 32) 22 22 rfl 2 Try.underlying22 (by kernel_rfl) (some ⟨w.heap.size, 0, none⟩) (some ⟨b, o, none⟩) n n 1 cap ?hd ?hs w.heap.size 0 (onesV n 0) 2 HB.out (List.replicate m (.int .i64 1)) ?c1 ?c2 ?c3 ?c4 w.heap.size w hb1 (Nat.le_refl _) ?_))
  case hd => rfl
  case hs => rfl
  case c1 => exact rep_c1 _ _ _ HM.out.symm
  case c2 =>
    have h := one_src hm1 HCC.out
    first
      | exact fun _ => ⟨rfl, _, rfl, h⟩
      | (intro _; simpa only [Addr.add_lit] using h)
      | (intro j u hu; have h2 := h j u hu; rwa [Addr.add_lit] at h2)
  case c3 => exact rep_c3 _ _ _ (Nat.zero_le _) (by omega)
  case c4 => exact rep_c4 _
  intro w2 hg2 hb2
  have hzz := hb1.size
  have HB2 : Hid (Blk w2 w.heap.size 2 (onesV n m)) := by
    have h := hg2.out
    rw [onesV_splice (j := 0) (by omega), Nat.zero_add] at h
    exact h
  have HBD := Lib.hid hb2
  have hlt2 := HB2.out.lt
  clear hg2 hb2 hb1 HB HCC hzz
  go_wp2_with fail
  go_loopg [8] n (fun gg t wr => ∃ j : Nat, (j ≤ n ∧ n ≤ j + gg) ∧ (n = 0 ∨ 1 ≤ j) ∧ t = .int .i64 j ∧ Hid (Blk wr w.heap.size 2 (onesV n j)) ∧ Hid (Below w.heap.size w wr))
  case atStart => exact ⟨m, by omega, by have := HM.out; omega, rfl, HB2, HBD⟩
  case round =>
    obtain ⟨j, hjg, hj1, rfl, HBL, HBE⟩ := hrel
    by_cases hlt : j < n
    · have hj0 : 1 ≤ j := by omega
      obtain ⟨m2, hm2⟩ : ∃ m2, min j (n - j) = m2 := ⟨_, rfl⟩
      have hm2a : m2 ≤ j := by omega
      have hm2b : j + m2 ≤ n := by omega
      have hm2c : 1 ≤ m2 := by omega
      have HM2 := Lib.hid hm2
      clear hm2 hj1
      have hi1 : (j : Int) < (n : Int) := by omega
      have hi2 : (j : Int) ≤ (n : Int) := by omega
      have hne : ¬ n = j := by omega
      have HW : Hid (IntKind.i64.wrap ((j : Int) + m2) = ((j + m2 : Nat) : Int)) := by show _ = _; rw [IntWalk.i64_in _ ⟨by omega, by omega⟩, Int.natCast_add]
      go_wp2_with fail
      have hjn : j ≤ n := hjg.1
      have hq3 := Lib.hid (rep_c3 n j m2 hjn hm2b)
      have hq1 := Lib.hid (rep_c1 _ _ _ HM2.out.symm)
      go_region_law (refine step_copy_splice rfl (.tmp 41) (.tmp 44) 22 22 rfl 2 Try.underlying22 (by kernel_rfl) (some ⟨w.heap.size, j, none⟩) (some ⟨w.heap.size, 0, none⟩) (n - j) (n - j) j n (by simp [Act.eval, Act.put]) (by simp [Act.eval, Act.put]) w.heap.size j (onesV n j) 2 HBL.out (List.replicate m2 (.int .i64 1)) hq1.out (fun _ => ⟨rfl, _, rfl, ones_src HBL.out hm2a⟩) hq3.out (rep_c4 _) w.heap.size w (by first | exact HBE.out | exact bl_dr HBE.out) (Nat.le_refl _) ?_; intro w4 hg4 hb4)
      all_goals
        have HG4 : Hid (Blk w4 w.heap.size 2 (onesV n (j + m2))) := by
          have h := hg4.out
          rw [onesV_splice hm2b] at h
          exact h
        have HB4 := Lib.hid hb4
        have el : (List.replicate m2 (Value.int .i64 1)).length = m2 := List.length_replicate
        try rw [el]
        clear hg4 hb4 HBL HBE el
        go_wp2_with fail
        go_roundg (n - (j + m2))
        case measure => omega
        case rel =>
          refine ⟨j + m2, ?_, ?_, ?_, HG4, HB4⟩
          · omega
          · omega
          · exact congrArg (Value.int .i64) HW.out
    · obtain rfl : j = n := by omega
      have hi1 : ¬ (j : Int) < (j : Int) := by omega
      have HL : Hid (Sl .i64 wr (.slice (some ⟨w.heap.size, 0, none⟩) j j) (List.replicate j 1)) := by
        have e1 : (onesV j j).take j = (List.replicate j (1 : Int)).map (Value.int .i64) := by
          rw [List.take_of_length_le (by rw [onesV_length (Nat.le_refl _)]; exact Nat.le_refl _)]
          simp [onesV]
        exact Sl.of_blk HBL.out (List.length_replicate) (Nat.le_refl _) (by unfold maxLen; omega) e1
      clear hlt HBL
      go_wp2_with fail
      go_ret
      exact ⟨_, rfl, HL.out, HBE.out⟩
end Go.Proofs.Ytllblmoojohffaa
