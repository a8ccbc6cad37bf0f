/- pool.Total, judged. -/
import Derived.Test.YtllblmoojohffaaPool
import Derived.Test.YtllblmoojohffaaAddA
namespace Go.Proofs.Ytllblmoojohffaa
open Go.RowKit EvM

theorem sumsB_addG {all : Int} {bs : List Int} (h0 : 0 ≤ all) {s : Int} (h : sumsB all bs = some s) : addG all bs = (s, 0) ∧ 0 ≤ s ∧ (bs ≠ [] → s ≤ 1000000000000000) := by
  induction bs generalizing all with
  | nil =>
    simp only [sumsB, Option.some.injEq] at h
    subst h
    exact ⟨rfl, h0, fun h => absurd rfl h⟩
  | cons v l ih =>
    unfold sumsB at h
    by_cases hc : may0 v = true ∧ may0 (all + v) = true
    · rw [if_pos hc] at h
      have h1 := may0_iff.1 hc.1
      have h2 := may0_iff.1 hc.2
      obtain ⟨e1, e2, e3⟩ := ih h2.1 h
      have m1 : mayM v = true := mayM_iff.2 (by omega)
      have m2 : mayM (all + v) = true := mayM_iff.2 (by omega)
      refine ⟨?_, e2, fun _ => ?_⟩
      · unfold addG
        rw [if_pos ⟨m1, m2⟩]
        exact e1
      · cases l with
        | nil => simp only [sumsB, Option.some.injEq] at h; omega
        | cons x l => exact e3 (by simp)
    · rw [if_neg hc] at h
      cases h
/-- All that is owed. -/
def totalP (bs : List Int) (c d : Int) : Int := if rightP bs c d = true then bs.sum else 0
theorem sumsB_sum {all : Int} {bs : List Int} {s : Int} (h : sumsB all bs = some s) : s = all + bs.sum := by
  induction bs generalizing all with
  | nil => simp only [sumsB, Option.some.injEq] at h; simp [h]
  | cons v l ih =>
    unfold sumsB at h
    by_cases hc : may0 v = true ∧ may0 (all + v) = true
    · rw [if_pos hc] at h
      rw [ih h, List.sum_cons]
      omega
    · rw [if_neg hc] at h
      cases h
theorem rightP_sums {bs : List Int} {c d : Int} (h : rightP bs c d = true) : sumsB 0 bs = some bs.sum := by
  unfold rightP at h
  cases hs : sumsB 0 bs with
  | none => rw [hs] at h; simp at h
  | some s => rw [sumsB_sum hs, Int.zero_add]
set_option maxHeartbeats 400000 in
theorem poolTotal_any (v : Value) (bs : List Int) (c d t : Int) (ht : Hid (totalP bs c d = t)) (hlen : bs.length ≤ 1000000) (w : World) (hv : Sl .i64 w v bs) :
    Calls Try.prog 51 #[.agg #[v, .int .i64 c, .int .i64 d]] w (RetB (.int .i64 t) w) := by
  have HV := Lib.hid hv
  obtain ⟨ao, cap, rfl, h1, ⟨h2, _⟩, h3⟩ := hv
  clear h3
  unfold maxLen at h2
  obtain ⟨r, hr⟩ : ∃ r, rightP bs c d = r := ⟨_, rfl⟩
  have HR := Lib.hid hr
  have HP := Lib.hid (PB.new w 46 (.slice ao bs.length cap) c d)
  obtain ⟨p0, p1, p2⟩ := HP.out
  have hb0 : Below w.heap.size w (w.alloc (.cells #[.slice ao bs.length cap, .int .i64 c, .int .i64 d] 46)) := bl_al (Below.refl _ _) _
  cases r with
  | false =>
    obtain rfl : 0 = t := by rw [← ht.out]; unfold totalP; rw [hr]; rfl
    clear ht hr
    go_enter Try.func51, Try.ntmps51
    go_wp2_with fail
    refine (poolRight_any _ bs c d _ HR hlen _ (HV.out.below hb0)).mono ?_
    rintro _ w1 ⟨rfl, hb1⟩
    go_wp2
    go_ret
    exact ⟨rfl, bl_tr hb0 hb1⟩
  | true =>
    have HT : Hid (addG 0 bs = (t, 0)) := by
      have h := (sumsB_addG (by omega) (rightP_sums hr)).1
      show _ = _
      rw [h, ← ht.out]
      unfold totalP
      rw [if_pos hr]
    clear ht hr
    go_enter Try.func51, Try.ntmps51
    go_wp2_with fail
    refine (poolRight_any _ bs c d _ HR hlen _ (HV.out.below hb0)).mono ?_
    rintro _ w1 ⟨rfl, hb1⟩
    obtain ⟨q0, q1, q2⟩ := HP.out.below hb1
    have hb2 := bl_tr hb0 hb1
    clear p0 p1 p2 hb0 hb1
    go_wp2_with fail
    refine (add_any _ bs t 0 HT hlen _ (HV.out.below hb2)).mono ?_
    rintro _ w2 ⟨rfl, hb3⟩
    go_wp2
    go_ret
    exact ⟨rfl, bl_tr hb2 hb3⟩
theorem bl_s3 {w w' : World} {g : Nat} (h : Below w.heap.size w w') (hg : w.heap.size ≤ g) (x y z : Value) : Below w.heap.size w (((w'.setCell ⟨g, 0, none⟩ x).setCell ⟨g, 1, none⟩ y).setCell ⟨g, 2, none⟩ z) :=
  ((h.setCell hg _).setCell hg _).setCell hg _
/-- A position that may be, or none. -/
def judgedV (v : Value) (bs : List Int) (c d : Int) : Value := if rightP bs c d = true then .tuple #[.agg #[v, .int .i64 c, .int .i64 d], .int .i64 0] else .tuple #[.agg #[.slice none 0 0, .int .i64 0, .int .i64 0], .int .i64 5]
set_option maxHeartbeats 400000 in
theorem judged_any (v : Value) (bs : List Int) (c d : Int) (r : Value) (hr0 : Hid (judgedV v bs c d = r)) (hlen : bs.length ≤ 1000000) (w : World) (hv : Sl .i64 w v bs) :
    Calls Try.prog 71 #[.agg #[v, .int .i64 c, .int .i64 d]] w (RetB r w) := by
  have HV := Lib.hid hv
  obtain ⟨ao, cap, rfl, h1, ⟨h2, _⟩, h3⟩ := hv
  clear h3
  unfold maxLen at h2
  obtain ⟨q, hq⟩ : ∃ q, rightP bs c d = q := ⟨_, rfl⟩
  have HQ := Lib.hid hq
  have HBLK : Hid (Blk ((w.alloc (.cells #[.slice ao bs.length cap, .int .i64 c, .int .i64 d] 46)).alloc (.cells #[.slice none 0 0, .int .i64 0, .int .i64 0] 46)) (w.heap.size + 1) 46 [.slice none 0 0, .int .i64 0, .int .i64 0]) := by
    have := heap_alloc_new (w.alloc (.cells #[.slice ao bs.length cap, .int .i64 c, .int .i64 d] 46)) (.cells #[.slice none 0 0, .int .i64 0, .int .i64 0] 46)
    simpa [Blk, Hid] using this
  have HPB := Lib.hid ((PB.new w 46 (.slice ao bs.length cap) c d).below (bl_al (Below.refl _ _) (.cells #[.slice none 0 0, .int .i64 0, .int .i64 0] 46)))
  have HW0 : Hid (Below w.heap.size w ((w.alloc (.cells #[.slice ao bs.length cap, .int .i64 c, .int .i64 d] 46)).alloc (.cells #[.slice none 0 0, .int .i64 0, .int .i64 0] 46))) := bl_al (bl_al (Below.refl _ _) _) _
  cases q with
  | false =>
    have hr : r = .tuple #[.agg #[.slice none 0 0, .int .i64 0, .int .i64 0], .int .i64 5] := by rw [← hr0.out]; unfold judgedV; rw [hq]; rfl
    subst hr
    clear hr0 hq
    go_enter Try.func71, Try.ntmps71
    go_wp2_with fail
    refine (poolRight_any _ bs c d _ HQ hlen _ (HV.out.below HW0.out)).mono ?_
    rintro _ w1 ⟨rfl, hb1⟩
    have hB := HBLK.out.below hb1
    obtain ⟨q0, q1, q2⟩ := HPB.out.below hb1
    have c0 := hB.cell 0
    have c1 := hB.cell 1
    have c2 := hB.cell 2
    simp only [List.getElem?_cons_zero, List.getElem?_cons_succ] at c0 c1 c2
    have f0 := hB.frozen 0
    have f1 := hB.frozen 1
    have f2 := hB.frozen 2
    have hbf := bl_tr HW0.out hb1
    have hlt := hB.lt
    clear hB hb1
    go_wp2
    refine bodyPost_ret (v := .tuple #[.agg #[.slice none 0 0, .int .i64 0, .int .i64 0], .int .i64 5]) (by simp [results, Try.results71, go_sem, c0, c1, c2]) rfl ⟨rfl, bl_s3 hbf (by omega) _ _ _⟩
  | true =>
    have hr : r = .tuple #[.agg #[.slice ao bs.length cap, .int .i64 c, .int .i64 d], .int .i64 0] := by rw [← hr0.out]; unfold judgedV; rw [hq]; rfl
    subst hr
    clear hr0 hq
    go_enter Try.func71, Try.ntmps71
    go_wp2_with fail
    refine (poolRight_any _ bs c d _ HQ hlen _ (HV.out.below HW0.out)).mono ?_
    rintro _ w1 ⟨rfl, hb1⟩
    have hB := HBLK.out.below hb1
    obtain ⟨q0, q1, q2⟩ := HPB.out.below hb1
    have c0 := hB.cell 0
    have c1 := hB.cell 1
    have c2 := hB.cell 2
    simp only [List.getElem?_cons_zero, List.getElem?_cons_succ] at c0 c1 c2
    have f0 := hB.frozen 0
    have f1 := hB.frozen 1
    have f2 := hB.frozen 2
    have hbf := bl_tr HW0.out hb1
    have hlt := hB.lt
    clear hB hb1
    go_wp2
    refine bodyPost_ret (v := .tuple #[.agg #[.slice ao bs.length cap, .int .i64 c, .int .i64 d], .int .i64 0]) (by simp [results, Try.results71, go_sem, c0, c1, c2]) rfl ⟨rfl, bl_s3 hbf (by omega) _ _ _⟩
end Go.Proofs.Ytllblmoojohffaa
