/- lombardref11.Copy, asked. -/
import Derived.Test.YtbiiejolemcifaaRef11
namespace Go.Proofs.Ytbiiejolemcifaa
open Go.RowKit

set_option maxHeartbeats 800000 in
set_option maxRecDepth 100000 in
theorem refCopy11_any (v : Value) (bs : List Int) (c d : Int) (hlen : bs.length ≤ 1000) (w : World) (hv : Sl .i64 w v bs) :
    Calls Try.prog 55 #[.agg #[v, .int .i64 c, .int .i64 d]] w (OwnP bs c d w) := by
  have HV := Lib.hid hv
  obtain ⟨ao, cap, rfl, h1, ⟨h2, hnone⟩, h3⟩ := hv
  clear h3
  unfold maxLen at h2
  have HBLK : Hid (Blk ((w.alloc (.cells #[.slice ao bs.length cap, .int .i64 c, .int .i64 d] 25)).alloc (.cells #[.slice none 0 0, .int .i64 0, .int .i64 0] 25)) (w.heap.size + 1) 25 [.slice none 0 0, .int .i64 0, .int .i64 0]) := by
    have := heap_alloc_new (w.alloc (.cells #[.slice ao bs.length cap, .int .i64 c, .int .i64 d] 25)) (.cells #[.slice none 0 0, .int .i64 0, .int .i64 0] 25)
    simpa [Blk, Hid] using this
  have hB0 : Blk (w.alloc (.cells #[.slice ao bs.length cap, .int .i64 c, .int .i64 d] 25)) w.heap.size 25 [.slice ao bs.length cap, .int .i64 c, .int .i64 d] := heap_alloc_new w _
  have HB0 := Lib.hid (hB0.below (bl_al (Below.refl _ _) (.cells #[.slice none 0 0, .int .i64 0, .int .i64 0] 25)))
  have HW0 : Hid (Below w.heap.size w ((w.alloc (.cells #[.slice ao bs.length cap, .int .i64 c, .int .i64 d] 25)).alloc (.cells #[.slice none 0 0, .int .i64 0, .int .i64 0] 25))) := bl_al (bl_al (Below.refl _ _) _) _
  have HSZ : Hid (((w.alloc (.cells #[.slice ao bs.length cap, .int .i64 c, .int .i64 d] 25)).alloc (.cells #[.slice none 0 0, .int .i64 0, .int .i64 0] 25)).heap.size = w.heap.size + 2) := by show _ = _; simp
  have HNN := Lib.hid (HV.out.below HW0.out)
  have HNO : Hid (ao = none → bs.length = 0 ∧ cap = 0) := HV.out.none_cap
  obtain ⟨i0, hi, hz0, hz1, hz2⟩ := info_parts info_clone
  clear hB0 hnone
  go_enter Try.func55, Try.ntmps55
  go_wp2_with (at_builtin; refine wpList_append_any _ rfl (.const (.slice none 0 0)) (.tmp 4) 23 rfl (w.heap.size + 2) 2 i0 (.int .i64 0) 1 8 Try.underlying23 hi hz0 hz1 hz2 rfl (by decide) (.slice none 0 0) 0 [] rfl (World.ownsRow_nil _ _ _ _) ao bs.length cap (bs.map (Value.int .i64)) rfl (by simp) HNO.out HNN.out.news (ints_oneCell _ _) (by unfold maxLen; omega) (by omega) (by rw [HSZ.out]; exact Nat.le_refl _) ?_; intro v' w1 hown1 hg1 hn1; clear hn1; have HG := Lib.hid hg1; have HO1 := Lib.hid hown1; have HBw := Lib.hid (grown_below1 hg1); have hB := HB0.out.below HBw.out; have c0 := hB.cell 0; have c1 := hB.cell 1; have c2 := hB.cell 2; have f0 := hB.frozen 0; have hR := HBLK.out.below HBw.out; have r0 := hR.cell 0; have r1 := hR.cell 1; have r2 := hR.cell 2; have g0 := hR.frozen 0; have g1 := hR.frozen 1; have g2 := hR.frozen 2; simp only [List.getElem?_cons_zero, List.getElem?_cons_succ] at c0 c1 c2 r0 r1 r2; obtain ⟨bo, bn, bc, rfl⟩ : ∃ ao n cap, v' = .slice ao n cap := (by rcases hown1.2 with ⟨h, _⟩ | ⟨g, cap', cur, h, _⟩; exact ⟨_, _, _, h⟩; exact ⟨_, _, _, h⟩); clear hB hR hown1 hg1)
  have hbf := bl_tr HW0.out HBw.out
  refine bodyPost_ret (v := .agg #[.slice bo bn bc, .int .i64 c, .int .i64 d]) (by simp [results, Try.results55, go_sem, r0, r1, r2]) rfl ⟨_, rfl, ?_, ?_⟩
  · have h := HO1.out
    rw [Nat.zero_add, List.nil_append] at h
    exact own_setElder (own_setElder (own_setElder (own_setElder h (by omega)) (by omega)) (by omega)) (by omega)
  · exact (((hbf.setCell (by simp) _).setCell (by simp) _).setCell (by simp) _).setCell (by simp) _

/-- What is wrong with what is asked of a tranche. -/
theorem refAsked11_any (v : Value) (bs : List Int) (c d k am e : Int) (he : Hid (askedE bs c d am [k] = e)) (w : World) (hv : Sl .i64 w v bs) :
    Calls Try.prog 48 #[.agg #[v, .int .i64 c, .int .i64 d], .int .i64 k, .int .i64 am] w (RetB (.int .i64 e) w) := by
  have HV := Lib.hid hv
  obtain ⟨ao, cap, rfl, h1, ⟨h2, _⟩, h3⟩ := hv
  clear h3
  unfold maxLen at h2
  have HP := Lib.hid (PB.new w 25 (.slice ao bs.length cap) c d)
  obtain ⟨p0, p1, p2⟩ := HP.out
  have hb0 : Below w.heap.size w (w.alloc (.cells #[.slice ao bs.length cap, .int .i64 c, .int .i64 d] 25)) := bl_al (Below.refl _ _) _
  cases hr : rightP bs c d with
  | false =>
    obtain rfl : 1 = e := by rw [← he.out]; unfold askedE; rw [if_pos hr]
    have HR := Lib.hid hr
    clear he hr
    go_enter Try.func48, Try.ntmps48
    go_wp2_with fail
    refine (refRight11_any _ bs c d false HR _ (HV.out.below hb0)).mono ?_
    rintro _ w1 ⟨rfl, hb1⟩
    go_wp2
    go_ret
    exact ⟨rfl, bl_tr hb0 hb1⟩
  | true =>
    have HR := Lib.hid hr
    have he2 : (if badK bs.length [k] = true then 7 else if may0 am = false then (8 : Int) else 0) = e := by rw [← he.out]; unfold askedE; simp only [hr, Bool.true_eq_false, if_false]
    have HE := Lib.hid he2
    clear he hr he2
    by_cases k1 : k < 1
    · obtain rfl : 7 = e := by rw [← HE.out, if_pos (by simp [badK, k1])]
      have e1 : decide (k < 1) = true := decide_eq_true k1
      clear HE
      go_enter Try.func48, Try.ntmps48
      go_wp2_with fail
      refine (refRight11_any _ bs c d true HR _ (HV.out.below hb0)).mono ?_
      rintro _ w1 ⟨rfl, hb1⟩
      go_wp2
      go_ret
      exact ⟨rfl, bl_tr hb0 hb1⟩
    · have e1 : decide (k < 1) = false := decide_eq_false k1
      by_cases k2 : (bs.length : Int) < k
      · obtain rfl : 7 = e := by rw [← HE.out, if_pos (by simp [badK, k2])]
        have e2 : decide ((bs.length : Int) < k) = true := decide_eq_true k2
        clear HE
        go_enter Try.func48, Try.ntmps48
        go_wp2_with fail
        refine (refRight11_any _ bs c d true HR _ (HV.out.below hb0)).mono ?_
        rintro _ w1 ⟨rfl, hb1⟩
        obtain ⟨q0, q1, q2⟩ := HP.out.below hb1
        clear p0 p1 p2
        go_wp2
        go_ret
        exact ⟨rfl, bl_tr hb0 hb1⟩
      · have e2 : decide ((bs.length : Int) < k) = false := decide_eq_false k2
        have hbk : badK bs.length [k] = false := by simp [badK]; omega
        cases hm : may0 am with
        | false =>
          obtain rfl : 8 = e := by rw [← HE.out, hbk, hm]; rfl
          have HM := Lib.hid hm
          clear HE hbk hm
          go_enter Try.func48, Try.ntmps48
          go_wp2_with fail
          refine (refRight11_any _ bs c d true HR _ (HV.out.below hb0)).mono ?_
          rintro _ w1 ⟨rfl, hb1⟩
          obtain ⟨q0, q1, q2⟩ := HP.out.below hb1
          clear p0 p1 p2
          go_wp2_with fail
          refine (refMay11_is HM.out _).mono ?_
          rintro _ w2 ⟨rfl, rfl⟩
          go_wp2
          go_ret
          exact ⟨rfl, bl_tr hb0 hb1⟩
        | true =>
          obtain rfl : 0 = e := by rw [← HE.out, hbk, hm]; rfl
          have HM := Lib.hid hm
          clear HE hbk hm
          go_enter Try.func48, Try.ntmps48
          go_wp2_with fail
          refine (refRight11_any _ bs c d true HR _ (HV.out.below hb0)).mono ?_
          rintro _ w1 ⟨rfl, hb1⟩
          obtain ⟨q0, q1, q2⟩ := HP.out.below hb1
          clear p0 p1 p2
          go_wp2_with fail
          refine (refMay11_is HM.out _).mono ?_
          rintro _ w2 ⟨rfl, rfl⟩
          go_wp2
          go_ret
          exact ⟨rfl, bl_tr hb0 hb1⟩
end Go.Proofs.Ytbiiejolemcifaa
