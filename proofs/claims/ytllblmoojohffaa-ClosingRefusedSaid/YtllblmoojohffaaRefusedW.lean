/- ClosingRefused: what does not go together, or may not be, is refused. -/
import Derived.Test.YtllblmoojohffaaLaw18
namespace Go.Proofs.Ytllblmoojohffaa
open Go.RowKit EvM

theorem start18 (w1 : World) (a1 : Option Addr) (q1 : Nat) (ht : TrS w1 (.slice a1 2 q1) ts18) : ∃ W, ((((((w1.alloc (.cells #[.int .i64 5000, .slice a1 2 q1, .int .i64 1, .int .i64 20, .int .i64 25, .int .i64 20, .int .i64 10957] 34)).alloc (.cells #[.int .i64 10957, .int .i64 10987] 48)).alloc (.cells #[.int .i64 5, .int .i64 6] 2)).alloc (.cells #[.slice (some ⟨w1.heap.size + 1 + 1, 0, none⟩) 2 2, .int .i64 0, .int .i64 0] 46)).alloc (.cells #[.int .i64 5, .int .i64 9] 2)).alloc (.cells #[.int .i64 0, .int .i64 0] 2)) = W ∧ Hid (Blk W w1.heap.size 34 [.int .i64 5000, .slice a1 2 q1, .int .i64 1, .int .i64 20, .int .i64 25, .int .i64 20, .int .i64 10957]) ∧ Hid (Blk W (w1.heap.size + 1) 48 [.int .i64 10957, .int .i64 10987]) ∧ Hid (Sl .i64 W (.slice (some ⟨w1.heap.size + 1 + 1, 0, none⟩) 2 2) [5, 6]) ∧ Hid (Blk W (w1.heap.size + 1 + 1 + 1) 46 [.slice (some ⟨w1.heap.size + 1 + 1, 0, none⟩) 2 2, .int .i64 0, .int .i64 0]) ∧ Hid (Sl .i64 W (.slice (some ⟨w1.heap.size + 1 + 1 + 1 + 1, 0, none⟩) 2 2) [5, 9]) ∧ Hid (Sl .i64 W (.slice (some ⟨w1.heap.size + 1 + 1 + 1 + 1 + 1, 0, none⟩) 2 2) [0, 0]) ∧ Hid (Below w1.heap.size w1 W) ∧ Hid (TrS W (.slice a1 2 q1) ts18) ∧ Hid (W.heap.size = w1.heap.size + 1 + 1 + 1 + 1 + 1 + 1) :=
  ⟨_, rfl, Blk.below (blk_new w1 _ _ _ rfl) (bl_al (bl_al (bl_al (bl_al (bl_al (Below.refl _ _) _) _) _) _) _), Blk.below (blk_new (w1.alloc _) _ _ _ (by simp)) (bl_al (bl_al (bl_al (bl_al (Below.refl _ _) _) _) _) _), Sl.below (Sl.litAt ((w1.alloc _).alloc _) 2 [5, 6] 2 _ rfl _ rfl (by unfold maxLen; omega) (by simp)) (bl_al (bl_al (bl_al (Below.refl _ _) _) _) _), Blk.below (blk_new (((w1.alloc _).alloc _).alloc _) _ _ _ (by simp)) (bl_al (bl_al (Below.refl _ _) _) _), Sl.below (Sl.litAt ((((w1.alloc _).alloc _).alloc _).alloc _) 2 [5, 9] 2 _ rfl _ rfl (by unfold maxLen; omega) (by simp)) (bl_al (Below.refl _ _) _), Sl.litAt (((((w1.alloc _).alloc _).alloc _).alloc _).alloc _) 2 [0, 0] 2 _ rfl _ rfl (by unfold maxLen; omega) (by simp), bl_al (bl_al (bl_al (bl_al (bl_al (bl_al (Below.refl _ _) _) _) _) _) _) _, ht.below (bl_al (bl_al (bl_al (bl_al (bl_al (bl_al (Below.refl _ _) _) _) _) _) _) _), by show _ = _; simp⟩

set_option maxHeartbeats 1600000 in
set_option maxRecDepth 100000 in
theorem refused_0 (x : Int) (h1 : (IntKind.u64.wrap x).tmod 10 = 0) (_h2 : IntKind.u64.wrap x % 10 = 0) (w : World) : Calls Try.prog 11 #[.int .i64 x] w (RetB (.bool true) w) := by
  go_enter Try.func11, Try.ntmps11
  go_wp2_with fail
  refine (terms18_any _).mono ?_
  rintro _ w1 ⟨a1, q1, rfl, ht1, hb1⟩
  have HT2 := Lib.hid ht1
  have HB := Lib.hid hb1
  clear ht1 hb1
  go_upto_region 8 with fail
  obtain ⟨W, hW, S0, S1, S2, S3, S4, S5, SB, ST, SZ⟩ := start18 w1 a1 q1 HT2.out
  with_reducible rw [hW]
  clear hW
  have hB := S0.out
  have s0 := hB.cell 2
  have s1 := hB.frozen 2
  simp only [List.getElem?_cons_zero, List.getElem?_cons_succ] at s0
  have hls := hB.lt
  clear hB
  have sz := SZ.out
  go_upto_region 26 with fail
  clear sz
  obtain ⟨V, hV, R0, R1, R3, RB, RR, RN, RW, RT⟩ : ∃ V, W.setCell ⟨w1.heap.size, 2, none⟩ (.int .i64 0) = V ∧ Hid (Blk V w1.heap.size 34 [.int .i64 5000, .slice a1 2 q1, .int .i64 0, .int .i64 20, .int .i64 25, .int .i64 20, .int .i64 10957]) ∧ Hid (Blk V (w1.heap.size + 1) 48 [.int .i64 10957, .int .i64 10987]) ∧ Hid (Blk V (w1.heap.size + 1 + 1 + 1) 46 [.slice (some ⟨w1.heap.size + 1 + 1, 0, none⟩) 2 2, .int .i64 0, .int .i64 0]) ∧ Hid (Sl .i64 V (.slice (some ⟨w1.heap.size + 1 + 1, 0, none⟩) 2 2) [5, 6]) ∧ Hid (Sl .i64 V (.slice (some ⟨w1.heap.size + 1 + 1 + 1 + 1, 0, none⟩) 2 2) [5, 9]) ∧ Hid (Sl .i64 V (.slice (some ⟨w1.heap.size + 1 + 1 + 1 + 1 + 1, 0, none⟩) 2 2) [0, 0]) ∧ Hid (Below w1.heap.size w1 V) ∧ Hid (TrS V (.slice a1 2 q1) ts18) :=
    ⟨_, rfl, (S0.out.set 2 _), (S1.out.setOther (by omega) _ _), (S3.out.setOther (by omega) _ _), (S2.out.setCell (fun b o n c e h => by cases e; omega) _), (S4.out.setCell (fun b o n c e h => by cases e; omega) _), (S5.out.setCell (fun b o n c e h => by cases e; omega) _), (SB.out.setCell (show w1.heap.size ≤ w1.heap.size by omega) _), (HT2.out.below (SB.out.setCell (show w1.heap.size ≤ w1.heap.size by omega) _))⟩
  with_reducible rw [hV]
  clear hV S0 S1 S2 S3 S4 S5 SB ST SZ
  clear s0 s1 hls
  have t0 := R0.out.cell 0
  have t1 := R0.out.cell 1
  have t2 := R0.out.cell 2
  have t3 := R0.out.cell 3
  have t4 := R0.out.cell 4
  have t5 := R0.out.cell 5
  have t6 := R0.out.cell 6
  simp only [List.getElem?_cons_zero, List.getElem?_cons_succ] at t0 t1 t2 t3 t4 t5 t6
  have p0 := R1.out.cell 0
  have p1 := R1.out.cell 1
  simp only [List.getElem?_cons_zero, List.getElem?_cons_succ] at p0 p1
  have r0 := R3.out.cell 0
  have r1 := R3.out.cell 1
  have r2 := R3.out.cell 2
  simp only [List.getElem?_cons_zero, List.getElem?_cons_succ] at r0 r1 r2
  go_wp2_with fail
  refine (close_no _ ts18 5000 0 20 25 20 10957 1 10957 10987 _ [5, 6] 0 0 _ [5, 9] _ [0, 0] false (by decide) 6 (Lib.hid (.inl ⟨by decide, rfl⟩)) V RT.out RB.out RR.out RN.out).mono ?_
  rintro _ w3 ⟨lv, bv, rfl, hln, hbl, hb3⟩
  obtain ⟨al, ql, rfl⟩ := hln.shape
  obtain ⟨ab, qb, rfl⟩ := hbl.shape
  have HBL := Lib.hid hbl
  have HBF := Lib.hid (bl_tr (bl_tr HB.out RW.out) hb3)
  clear hln hbl hb3 t0 t1 t2 t3 t4 t5 t6 p0 p1 r0 r1 r2
  simp only [List.length_nil] at HBL ⊢
  go_upto_region 27 with fail
  obtain ⟨U, hU, Q10, Q11, QB, QS⟩ : ∃ U, (w3.alloc (.cells #[.int .i64 0, .int .i64 0, .int .i64 0, .int .i64 0, .slice al 0 ql, .int .i64 0, .int .i64 0, .int .i64 0, .bool false] 51)).alloc (.cells #[.slice ab 0 qb, .int .i64 0, .int .i64 0] 46) = U ∧ Hid (Blk U w3.heap.size 51 [.int .i64 0, .int .i64 0, .int .i64 0, .int .i64 0, .slice al 0 ql, .int .i64 0, .int .i64 0, .int .i64 0, .bool false]) ∧ Hid (Blk U (w3.heap.size + 1) 46 [.slice ab 0 qb, .int .i64 0, .int .i64 0]) ∧ Hid (Below w.heap.size w U) ∧ Hid (Sl .i64 U (.slice ab 0 qb) []) :=
    ⟨_, rfl, Blk.below (heap_alloc_new w3 _) (bl_al (Below.refl _ _) _), blk_new (w3.alloc _) _ _ _ (by simp), bl_al (bl_al HBF.out _) _, HBL.out.below (bl_al (bl_al (Below.refl _ _) _) _)⟩
  with_reducible rw [hU]
  clear hU HBL HBF R0 R1 R3 RB RR RN RW RT
  go_wp2_with fail
  refine (awake18_any _).mono ?_
  rintro _ w5 ⟨rfl, hb5⟩
  have HB5 := Lib.hid hb5
  have t0 := (Q10.out.below HB5.out).cell 0
  have t1 := (Q10.out.below HB5.out).cell 1
  have t2 := (Q10.out.below HB5.out).cell 2
  have t3 := (Q10.out.below HB5.out).cell 3
  have t4 := (Q10.out.below HB5.out).cell 4
  have t5 := (Q10.out.below HB5.out).cell 5
  have t6 := (Q10.out.below HB5.out).cell 6
  have t7 := (Q10.out.below HB5.out).cell 7
  have t8 := (Q10.out.below HB5.out).cell 8
  simp only [List.getElem?_cons_zero, List.getElem?_cons_succ] at t0 t1 t2 t3 t4 t5 t6 t7 t8
  have p0 := (Q11.out.below HB5.out).cell 0
  have p1 := (Q11.out.below HB5.out).cell 1
  have p2 := (Q11.out.below HB5.out).cell 2
  simp only [List.getElem?_cons_zero, List.getElem?_cons_succ] at p0 p1 p2
  clear hb5
  go_wp2_with fail
  refine (sameStmt0 al ql _).mono ?_
  rintro _ w6 ⟨rfl, hb6⟩
  have HB6 := Lib.hid (bl_tr HB5.out hb6)
  clear hb6 t0 t1 t2 t3 t4 t5 t6 t7 t8 p0 p1 p2
  have p0 := (Q11.out.below HB6.out).cell 0
  have p1 := (Q11.out.below HB6.out).cell 1
  have p2 := (Q11.out.below HB6.out).cell 2
  simp only [List.getElem?_cons_zero, List.getElem?_cons_succ] at p0 p1 p2
  go_wp2_with fail
  refine (samePos_true (.slice ab 0 qb) (.slice none 0 0) [] 0 0 _ (QS.out.below HB6.out) Sl.nil).mono ?_
  rintro _ w7 ⟨rfl, hb7⟩
  have HB7 := Lib.hid (bl_tr QB.out (bl_tr HB6.out hb7))
  clear hb7
  go_wp2_with fail
  go_ret
  exact ⟨rfl, HB7.out⟩

set_option maxHeartbeats 1600000 in
set_option maxRecDepth 100000 in
theorem refused_1 (x : Int) (h1 : (IntKind.u64.wrap x).tmod 10 = 1) (_h2 : IntKind.u64.wrap x % 10 = 1) (w : World) : Calls Try.prog 11 #[.int .i64 x] w (RetB (.bool true) w) := by
  go_enter Try.func11, Try.ntmps11
  go_wp2_with fail
  refine (terms18_any _).mono ?_
  rintro _ w1 ⟨a1, q1, rfl, ht1, hb1⟩
  have HT2 := Lib.hid ht1
  have HB := Lib.hid hb1
  clear ht1 hb1
  go_upto_region 8 with fail
  obtain ⟨W, hW, S0, S1, S2, S3, S4, S5, SB, ST, SZ⟩ := start18 w1 a1 q1 HT2.out
  with_reducible rw [hW]
  clear hW
  have sz := SZ.out
  go_upto_region 26 with fail
  clear sz
  obtain ⟨V, hV, R0, R1, R3, RB, RR, RN, RW, RT⟩ : ∃ V, W = V ∧ Hid (Blk V w1.heap.size 34 [.int .i64 5000, .slice a1 2 q1, .int .i64 1, .int .i64 20, .int .i64 25, .int .i64 20, .int .i64 10957]) ∧ Hid (Blk V (w1.heap.size + 1) 48 [.int .i64 10957, .int .i64 10987]) ∧ Hid (Blk V (w1.heap.size + 1 + 1 + 1) 46 [.slice (some ⟨w1.heap.size + 1 + 1, 0, none⟩) 2 2, .int .i64 0, .int .i64 0]) ∧ Hid (Sl .i64 V (.slice (some ⟨w1.heap.size + 1 + 1, 0, none⟩) 2 2) [5, 6]) ∧ Hid (Sl .i64 V (.slice (some ⟨w1.heap.size + 1 + 1 + 1 + 1, 0, none⟩) 2 2) [5, 9]) ∧ Hid (Sl .i64 V (.slice (some ⟨w1.heap.size + 1 + 1 + 1 + 1 + 1, 0, none⟩) 2 2) [0, 0]) ∧ Hid (Below w1.heap.size w1 V) ∧ Hid (TrS V (.slice a1 2 q1) ts18) :=
    ⟨_, rfl, S0.out, S1.out, S3.out, S2.out, S4.out, S5.out, SB.out, (HT2.out.below SB.out)⟩
  with_reducible rw [hV]
  clear hV S0 S1 S2 S3 S4 S5 SB ST SZ

  have t0 := R0.out.cell 0
  have t1 := R0.out.cell 1
  have t2 := R0.out.cell 2
  have t3 := R0.out.cell 3
  have t4 := R0.out.cell 4
  have t5 := R0.out.cell 5
  have t6 := R0.out.cell 6
  simp only [List.getElem?_cons_zero, List.getElem?_cons_succ] at t0 t1 t2 t3 t4 t5 t6
  have p0 := R1.out.cell 0
  have p1 := R1.out.cell 1
  simp only [List.getElem?_cons_zero, List.getElem?_cons_succ] at p0 p1
  have r0 := R3.out.cell 0
  have r1 := R3.out.cell 1
  have r2 := R3.out.cell 2
  simp only [List.getElem?_cons_zero, List.getElem?_cons_succ] at r0 r1 r2
  go_wp2_with fail
  refine (close_no _ ts18 5000 1 20 25 20 10957 0 10957 10987 _ [5, 6] 0 0 _ [5, 9] _ [0, 0] false (by decide) 1 (Lib.hid (.inr (.inl ⟨right18, by decide, rfl⟩))) V RT.out RB.out RR.out RN.out).mono ?_
  rintro _ w3 ⟨lv, bv, rfl, hln, hbl, hb3⟩
  obtain ⟨al, ql, rfl⟩ := hln.shape
  obtain ⟨ab, qb, rfl⟩ := hbl.shape
  have HBL := Lib.hid hbl
  have HBF := Lib.hid (bl_tr (bl_tr HB.out RW.out) hb3)
  clear hln hbl hb3 t0 t1 t2 t3 t4 t5 t6 p0 p1 r0 r1 r2
  simp only [List.length_nil] at HBL ⊢
  go_upto_region 27 with fail
  obtain ⟨U, hU, Q10, Q11, QB, QS⟩ : ∃ U, (w3.alloc (.cells #[.int .i64 0, .int .i64 0, .int .i64 0, .int .i64 0, .slice al 0 ql, .int .i64 0, .int .i64 0, .int .i64 0, .bool false] 51)).alloc (.cells #[.slice ab 0 qb, .int .i64 0, .int .i64 0] 46) = U ∧ Hid (Blk U w3.heap.size 51 [.int .i64 0, .int .i64 0, .int .i64 0, .int .i64 0, .slice al 0 ql, .int .i64 0, .int .i64 0, .int .i64 0, .bool false]) ∧ Hid (Blk U (w3.heap.size + 1) 46 [.slice ab 0 qb, .int .i64 0, .int .i64 0]) ∧ Hid (Below w.heap.size w U) ∧ Hid (Sl .i64 U (.slice ab 0 qb) []) :=
    ⟨_, rfl, Blk.below (heap_alloc_new w3 _) (bl_al (Below.refl _ _) _), blk_new (w3.alloc _) _ _ _ (by simp), bl_al (bl_al HBF.out _) _, HBL.out.below (bl_al (bl_al (Below.refl _ _) _) _)⟩
  with_reducible rw [hU]
  clear hU HBL HBF R0 R1 R3 RB RR RN RW RT
  go_wp2_with fail
  refine (awake18_any _).mono ?_
  rintro _ w5 ⟨rfl, hb5⟩
  have HB5 := Lib.hid hb5
  have t0 := (Q10.out.below HB5.out).cell 0
  have t1 := (Q10.out.below HB5.out).cell 1
  have t2 := (Q10.out.below HB5.out).cell 2
  have t3 := (Q10.out.below HB5.out).cell 3
  have t4 := (Q10.out.below HB5.out).cell 4
  have t5 := (Q10.out.below HB5.out).cell 5
  have t6 := (Q10.out.below HB5.out).cell 6
  have t7 := (Q10.out.below HB5.out).cell 7
  have t8 := (Q10.out.below HB5.out).cell 8
  simp only [List.getElem?_cons_zero, List.getElem?_cons_succ] at t0 t1 t2 t3 t4 t5 t6 t7 t8
  have p0 := (Q11.out.below HB5.out).cell 0
  have p1 := (Q11.out.below HB5.out).cell 1
  have p2 := (Q11.out.below HB5.out).cell 2
  simp only [List.getElem?_cons_zero, List.getElem?_cons_succ] at p0 p1 p2
  clear hb5
  go_wp2_with fail
  refine (sameStmt0 al ql _).mono ?_
  rintro _ w6 ⟨rfl, hb6⟩
  have HB6 := Lib.hid (bl_tr HB5.out hb6)
  clear hb6 t0 t1 t2 t3 t4 t5 t6 t7 t8 p0 p1 p2
  have p0 := (Q11.out.below HB6.out).cell 0
  have p1 := (Q11.out.below HB6.out).cell 1
  have p2 := (Q11.out.below HB6.out).cell 2
  simp only [List.getElem?_cons_zero, List.getElem?_cons_succ] at p0 p1 p2
  go_wp2_with fail
  refine (samePos_true (.slice ab 0 qb) (.slice none 0 0) [] 0 0 _ (QS.out.below HB6.out) Sl.nil).mono ?_
  rintro _ w7 ⟨rfl, hb7⟩
  have HB7 := Lib.hid (bl_tr QB.out (bl_tr HB6.out hb7))
  clear hb7
  go_wp2_with fail
  go_ret
  exact ⟨rfl, HB7.out⟩

set_option maxHeartbeats 1600000 in
set_option maxRecDepth 100000 in
theorem refused_2 (x : Int) (h1 : (IntKind.u64.wrap x).tmod 10 = 2) (_h2 : IntKind.u64.wrap x % 10 = 2) (w : World) : Calls Try.prog 11 #[.int .i64 x] w (RetB (.bool true) w) := by
  go_enter Try.func11, Try.ntmps11
  go_wp2_with fail
  refine (terms18_any _).mono ?_
  rintro _ w1 ⟨a1, q1, rfl, ht1, hb1⟩
  have HT2 := Lib.hid ht1
  have HB := Lib.hid hb1
  clear ht1 hb1
  go_upto_region 8 with fail
  obtain ⟨W, hW, S0, S1, S2, S3, S4, S5, SB, ST, SZ⟩ := start18 w1 a1 q1 HT2.out
  with_reducible rw [hW]
  clear hW
  have sz := SZ.out
  go_upto_region 26 with fail
  clear sz
  obtain ⟨V, hV, R0, R1, R3, RB, RR, RN, RW, RT⟩ : ∃ V, W = V ∧ Hid (Blk V w1.heap.size 34 [.int .i64 5000, .slice a1 2 q1, .int .i64 1, .int .i64 20, .int .i64 25, .int .i64 20, .int .i64 10957]) ∧ Hid (Blk V (w1.heap.size + 1) 48 [.int .i64 10957, .int .i64 10987]) ∧ Hid (Blk V (w1.heap.size + 1 + 1 + 1) 46 [.slice (some ⟨w1.heap.size + 1 + 1, 0, none⟩) 2 2, .int .i64 0, .int .i64 0]) ∧ Hid (Sl .i64 V (.slice (some ⟨w1.heap.size + 1 + 1, 0, none⟩) 2 2) [5, 6]) ∧ Hid (Sl .i64 V (.slice (some ⟨w1.heap.size + 1 + 1 + 1 + 1, 0, none⟩) 2 2) [5, 9]) ∧ Hid (Sl .i64 V (.slice (some ⟨w1.heap.size + 1 + 1 + 1 + 1 + 1, 0, none⟩) 2 2) [0, 0]) ∧ Hid (Below w1.heap.size w1 V) ∧ Hid (TrS V (.slice a1 2 q1) ts18) :=
    ⟨_, rfl, S0.out, S1.out, S3.out, S2.out, S4.out, S5.out, SB.out, (HT2.out.below SB.out)⟩
  with_reducible rw [hV]
  clear hV S0 S1 S2 S3 S4 S5 SB ST SZ

  have t0 := R0.out.cell 0
  have t1 := R0.out.cell 1
  have t2 := R0.out.cell 2
  have t3 := R0.out.cell 3
  have t4 := R0.out.cell 4
  have t5 := R0.out.cell 5
  have t6 := R0.out.cell 6
  simp only [List.getElem?_cons_zero, List.getElem?_cons_succ] at t0 t1 t2 t3 t4 t5 t6
  have p0 := R1.out.cell 0
  have p1 := R1.out.cell 1
  simp only [List.getElem?_cons_zero, List.getElem?_cons_succ] at p0 p1
  have r0 := R3.out.cell 0
  have r1 := R3.out.cell 1
  have r2 := R3.out.cell 2
  simp only [List.getElem?_cons_zero, List.getElem?_cons_succ] at r0 r1 r2
  go_wp2_with fail
  refine (close_no _ ts18 5000 1 20 25 20 10957 301 10957 10987 _ [5, 6] 0 0 _ [5, 9] _ [0, 0] false (by decide) 1 (Lib.hid (.inr (.inl ⟨right18, by decide, rfl⟩))) V RT.out RB.out RR.out RN.out).mono ?_
  rintro _ w3 ⟨lv, bv, rfl, hln, hbl, hb3⟩
  obtain ⟨al, ql, rfl⟩ := hln.shape
  obtain ⟨ab, qb, rfl⟩ := hbl.shape
  have HBL := Lib.hid hbl
  have HBF := Lib.hid (bl_tr (bl_tr HB.out RW.out) hb3)
  clear hln hbl hb3 t0 t1 t2 t3 t4 t5 t6 p0 p1 r0 r1 r2
  simp only [List.length_nil] at HBL ⊢
  go_upto_region 27 with fail
  obtain ⟨U, hU, Q10, Q11, QB, QS⟩ : ∃ U, (w3.alloc (.cells #[.int .i64 0, .int .i64 0, .int .i64 0, .int .i64 0, .slice al 0 ql, .int .i64 0, .int .i64 0, .int .i64 0, .bool false] 51)).alloc (.cells #[.slice ab 0 qb, .int .i64 0, .int .i64 0] 46) = U ∧ Hid (Blk U w3.heap.size 51 [.int .i64 0, .int .i64 0, .int .i64 0, .int .i64 0, .slice al 0 ql, .int .i64 0, .int .i64 0, .int .i64 0, .bool false]) ∧ Hid (Blk U (w3.heap.size + 1) 46 [.slice ab 0 qb, .int .i64 0, .int .i64 0]) ∧ Hid (Below w.heap.size w U) ∧ Hid (Sl .i64 U (.slice ab 0 qb) []) :=
    ⟨_, rfl, Blk.below (heap_alloc_new w3 _) (bl_al (Below.refl _ _) _), blk_new (w3.alloc _) _ _ _ (by simp), bl_al (bl_al HBF.out _) _, HBL.out.below (bl_al (bl_al (Below.refl _ _) _) _)⟩
  with_reducible rw [hU]
  clear hU HBL HBF R0 R1 R3 RB RR RN RW RT
  go_wp2_with fail
  refine (awake18_any _).mono ?_
  rintro _ w5 ⟨rfl, hb5⟩
  have HB5 := Lib.hid hb5
  have t0 := (Q10.out.below HB5.out).cell 0
  have t1 := (Q10.out.below HB5.out).cell 1
  have t2 := (Q10.out.below HB5.out).cell 2
  have t3 := (Q10.out.below HB5.out).cell 3
  have t4 := (Q10.out.below HB5.out).cell 4
  have t5 := (Q10.out.below HB5.out).cell 5
  have t6 := (Q10.out.below HB5.out).cell 6
  have t7 := (Q10.out.below HB5.out).cell 7
  have t8 := (Q10.out.below HB5.out).cell 8
  simp only [List.getElem?_cons_zero, List.getElem?_cons_succ] at t0 t1 t2 t3 t4 t5 t6 t7 t8
  have p0 := (Q11.out.below HB5.out).cell 0
  have p1 := (Q11.out.below HB5.out).cell 1
  have p2 := (Q11.out.below HB5.out).cell 2
  simp only [List.getElem?_cons_zero, List.getElem?_cons_succ] at p0 p1 p2
  clear hb5
  go_wp2_with fail
  refine (sameStmt0 al ql _).mono ?_
  rintro _ w6 ⟨rfl, hb6⟩
  have HB6 := Lib.hid (bl_tr HB5.out hb6)
  clear hb6 t0 t1 t2 t3 t4 t5 t6 t7 t8 p0 p1 p2
  have p0 := (Q11.out.below HB6.out).cell 0
  have p1 := (Q11.out.below HB6.out).cell 1
  have p2 := (Q11.out.below HB6.out).cell 2
  simp only [List.getElem?_cons_zero, List.getElem?_cons_succ] at p0 p1 p2
  go_wp2_with fail
  refine (samePos_true (.slice ab 0 qb) (.slice none 0 0) [] 0 0 _ (QS.out.below HB6.out) Sl.nil).mono ?_
  rintro _ w7 ⟨rfl, hb7⟩
  have HB7 := Lib.hid (bl_tr QB.out (bl_tr HB6.out hb7))
  clear hb7
  go_wp2_with fail
  go_ret
  exact ⟨rfl, HB7.out⟩

set_option maxHeartbeats 1600000 in
set_option maxRecDepth 100000 in
theorem refused_3 (x : Int) (h1 : (IntKind.u64.wrap x).tmod 10 = 3) (_h2 : IntKind.u64.wrap x % 10 = 3) (w : World) : Calls Try.prog 11 #[.int .i64 x] w (RetB (.bool true) w) := by
  go_enter Try.func11, Try.ntmps11
  go_wp2_with fail
  refine (terms18_any _).mono ?_
  rintro _ w1 ⟨a1, q1, rfl, ht1, hb1⟩
  have HT2 := Lib.hid ht1
  have HB := Lib.hid hb1
  clear ht1 hb1
  go_upto_region 8 with fail
  obtain ⟨W, hW, S0, S1, S2, S3, S4, S5, SB, ST, SZ⟩ := start18 w1 a1 q1 HT2.out
  with_reducible rw [hW]
  clear hW
  have hB := S1.out
  have s0 := hB.cell 1
  have s1 := hB.frozen 1
  simp only [List.getElem?_cons_zero, List.getElem?_cons_succ] at s0
  have hls := hB.lt
  clear hB
  have sz := SZ.out
  go_upto_region 26 with fail
  clear sz
  obtain ⟨V, hV, R0, R1, R3, RB, RR, RN, RW, RT⟩ : ∃ V, W.setCell ⟨w1.heap.size + 1, 1, none⟩ (.int .i64 10956) = V ∧ Hid (Blk V w1.heap.size 34 [.int .i64 5000, .slice a1 2 q1, .int .i64 1, .int .i64 20, .int .i64 25, .int .i64 20, .int .i64 10957]) ∧ Hid (Blk V (w1.heap.size + 1) 48 [.int .i64 10957, .int .i64 10956]) ∧ Hid (Blk V (w1.heap.size + 1 + 1 + 1) 46 [.slice (some ⟨w1.heap.size + 1 + 1, 0, none⟩) 2 2, .int .i64 0, .int .i64 0]) ∧ Hid (Sl .i64 V (.slice (some ⟨w1.heap.size + 1 + 1, 0, none⟩) 2 2) [5, 6]) ∧ Hid (Sl .i64 V (.slice (some ⟨w1.heap.size + 1 + 1 + 1 + 1, 0, none⟩) 2 2) [5, 9]) ∧ Hid (Sl .i64 V (.slice (some ⟨w1.heap.size + 1 + 1 + 1 + 1 + 1, 0, none⟩) 2 2) [0, 0]) ∧ Hid (Below w1.heap.size w1 V) ∧ Hid (TrS V (.slice a1 2 q1) ts18) :=
    ⟨_, rfl, (S0.out.setOther (by omega) _ _), (S1.out.set 1 _), (S3.out.setOther (by omega) _ _), (S2.out.setCell (fun b o n c e h => by cases e; omega) _), (S4.out.setCell (fun b o n c e h => by cases e; omega) _), (S5.out.setCell (fun b o n c e h => by cases e; omega) _), (SB.out.setCell (show w1.heap.size ≤ w1.heap.size + 1 by omega) _), (HT2.out.below (SB.out.setCell (show w1.heap.size ≤ w1.heap.size + 1 by omega) _))⟩
  with_reducible rw [hV]
  clear hV S0 S1 S2 S3 S4 S5 SB ST SZ
  clear s0 s1 hls
  have t0 := R0.out.cell 0
  have t1 := R0.out.cell 1
  have t2 := R0.out.cell 2
  have t3 := R0.out.cell 3
  have t4 := R0.out.cell 4
  have t5 := R0.out.cell 5
  have t6 := R0.out.cell 6
  simp only [List.getElem?_cons_zero, List.getElem?_cons_succ] at t0 t1 t2 t3 t4 t5 t6
  have p0 := R1.out.cell 0
  have p1 := R1.out.cell 1
  simp only [List.getElem?_cons_zero, List.getElem?_cons_succ] at p0 p1
  have r0 := R3.out.cell 0
  have r1 := R3.out.cell 1
  have r2 := R3.out.cell 2
  simp only [List.getElem?_cons_zero, List.getElem?_cons_succ] at r0 r1 r2
  go_wp2_with fail
  refine (close_no _ ts18 5000 1 20 25 20 10957 1 10957 10956 _ [5, 6] 0 0 _ [5, 9] _ [0, 0] false (by decide) 1 (Lib.hid (.inr (.inl ⟨right18, by decide, rfl⟩))) V RT.out RB.out RR.out RN.out).mono ?_
  rintro _ w3 ⟨lv, bv, rfl, hln, hbl, hb3⟩
  obtain ⟨al, ql, rfl⟩ := hln.shape
  obtain ⟨ab, qb, rfl⟩ := hbl.shape
  have HBL := Lib.hid hbl
  have HBF := Lib.hid (bl_tr (bl_tr HB.out RW.out) hb3)
  clear hln hbl hb3 t0 t1 t2 t3 t4 t5 t6 p0 p1 r0 r1 r2
  simp only [List.length_nil] at HBL ⊢
  go_upto_region 27 with fail
  obtain ⟨U, hU, Q10, Q11, QB, QS⟩ : ∃ U, (w3.alloc (.cells #[.int .i64 0, .int .i64 0, .int .i64 0, .int .i64 0, .slice al 0 ql, .int .i64 0, .int .i64 0, .int .i64 0, .bool false] 51)).alloc (.cells #[.slice ab 0 qb, .int .i64 0, .int .i64 0] 46) = U ∧ Hid (Blk U w3.heap.size 51 [.int .i64 0, .int .i64 0, .int .i64 0, .int .i64 0, .slice al 0 ql, .int .i64 0, .int .i64 0, .int .i64 0, .bool false]) ∧ Hid (Blk U (w3.heap.size + 1) 46 [.slice ab 0 qb, .int .i64 0, .int .i64 0]) ∧ Hid (Below w.heap.size w U) ∧ Hid (Sl .i64 U (.slice ab 0 qb) []) :=
    ⟨_, rfl, Blk.below (heap_alloc_new w3 _) (bl_al (Below.refl _ _) _), blk_new (w3.alloc _) _ _ _ (by simp), bl_al (bl_al HBF.out _) _, HBL.out.below (bl_al (bl_al (Below.refl _ _) _) _)⟩
  with_reducible rw [hU]
  clear hU HBL HBF R0 R1 R3 RB RR RN RW RT
  go_wp2_with fail
  refine (awake18_any _).mono ?_
  rintro _ w5 ⟨rfl, hb5⟩
  have HB5 := Lib.hid hb5
  have t0 := (Q10.out.below HB5.out).cell 0
  have t1 := (Q10.out.below HB5.out).cell 1
  have t2 := (Q10.out.below HB5.out).cell 2
  have t3 := (Q10.out.below HB5.out).cell 3
  have t4 := (Q10.out.below HB5.out).cell 4
  have t5 := (Q10.out.below HB5.out).cell 5
  have t6 := (Q10.out.below HB5.out).cell 6
  have t7 := (Q10.out.below HB5.out).cell 7
  have t8 := (Q10.out.below HB5.out).cell 8
  simp only [List.getElem?_cons_zero, List.getElem?_cons_succ] at t0 t1 t2 t3 t4 t5 t6 t7 t8
  have p0 := (Q11.out.below HB5.out).cell 0
  have p1 := (Q11.out.below HB5.out).cell 1
  have p2 := (Q11.out.below HB5.out).cell 2
  simp only [List.getElem?_cons_zero, List.getElem?_cons_succ] at p0 p1 p2
  clear hb5
  go_wp2_with fail
  refine (sameStmt0 al ql _).mono ?_
  rintro _ w6 ⟨rfl, hb6⟩
  have HB6 := Lib.hid (bl_tr HB5.out hb6)
  clear hb6 t0 t1 t2 t3 t4 t5 t6 t7 t8 p0 p1 p2
  have p0 := (Q11.out.below HB6.out).cell 0
  have p1 := (Q11.out.below HB6.out).cell 1
  have p2 := (Q11.out.below HB6.out).cell 2
  simp only [List.getElem?_cons_zero, List.getElem?_cons_succ] at p0 p1 p2
  go_wp2_with fail
  refine (samePos_true (.slice ab 0 qb) (.slice none 0 0) [] 0 0 _ (QS.out.below HB6.out) Sl.nil).mono ?_
  rintro _ w7 ⟨rfl, hb7⟩
  have HB7 := Lib.hid (bl_tr QB.out (bl_tr HB6.out hb7))
  clear hb7
  go_wp2_with fail
  go_ret
  exact ⟨rfl, HB7.out⟩

set_option maxHeartbeats 1600000 in
set_option maxRecDepth 100000 in
theorem refused_4 (x : Int) (h1 : (IntKind.u64.wrap x).tmod 10 = 4) (_h2 : IntKind.u64.wrap x % 10 = 4) (w : World) : Calls Try.prog 11 #[.int .i64 x] w (RetB (.bool true) w) := by
  go_enter Try.func11, Try.ntmps11
  go_wp2_with fail
  refine (terms18_any _).mono ?_
  rintro _ w1 ⟨a1, q1, rfl, ht1, hb1⟩
  have HT2 := Lib.hid ht1
  have HB := Lib.hid hb1
  clear ht1 hb1
  go_upto_region 8 with fail
  obtain ⟨W, hW, S0, S1, S2, S3, S4, S5, SB, ST, SZ⟩ := start18 w1 a1 q1 HT2.out
  with_reducible rw [hW]
  clear hW
  have hB := S1.out
  have s0 := hB.cell 1
  have s1 := hB.frozen 1
  simp only [List.getElem?_cons_zero, List.getElem?_cons_succ] at s0
  have hls := hB.lt
  clear hB
  have sz := SZ.out
  go_upto_region 26 with fail
  clear sz
  obtain ⟨V, hV, R0, R1, R3, RB, RR, RN, RW, RT⟩ : ∃ V, W.setCell ⟨w1.heap.size + 1, 1, none⟩ (.int .i64 2932897) = V ∧ Hid (Blk V w1.heap.size 34 [.int .i64 5000, .slice a1 2 q1, .int .i64 1, .int .i64 20, .int .i64 25, .int .i64 20, .int .i64 10957]) ∧ Hid (Blk V (w1.heap.size + 1) 48 [.int .i64 10957, .int .i64 2932897]) ∧ Hid (Blk V (w1.heap.size + 1 + 1 + 1) 46 [.slice (some ⟨w1.heap.size + 1 + 1, 0, none⟩) 2 2, .int .i64 0, .int .i64 0]) ∧ Hid (Sl .i64 V (.slice (some ⟨w1.heap.size + 1 + 1, 0, none⟩) 2 2) [5, 6]) ∧ Hid (Sl .i64 V (.slice (some ⟨w1.heap.size + 1 + 1 + 1 + 1, 0, none⟩) 2 2) [5, 9]) ∧ Hid (Sl .i64 V (.slice (some ⟨w1.heap.size + 1 + 1 + 1 + 1 + 1, 0, none⟩) 2 2) [0, 0]) ∧ Hid (Below w1.heap.size w1 V) ∧ Hid (TrS V (.slice a1 2 q1) ts18) :=
    ⟨_, rfl, (S0.out.setOther (by omega) _ _), (S1.out.set 1 _), (S3.out.setOther (by omega) _ _), (S2.out.setCell (fun b o n c e h => by cases e; omega) _), (S4.out.setCell (fun b o n c e h => by cases e; omega) _), (S5.out.setCell (fun b o n c e h => by cases e; omega) _), (SB.out.setCell (show w1.heap.size ≤ w1.heap.size + 1 by omega) _), (HT2.out.below (SB.out.setCell (show w1.heap.size ≤ w1.heap.size + 1 by omega) _))⟩
  with_reducible rw [hV]
  clear hV S0 S1 S2 S3 S4 S5 SB ST SZ
  clear s0 s1 hls
  have t0 := R0.out.cell 0
  have t1 := R0.out.cell 1
  have t2 := R0.out.cell 2
  have t3 := R0.out.cell 3
  have t4 := R0.out.cell 4
  have t5 := R0.out.cell 5
  have t6 := R0.out.cell 6
  simp only [List.getElem?_cons_zero, List.getElem?_cons_succ] at t0 t1 t2 t3 t4 t5 t6
  have p0 := R1.out.cell 0
  have p1 := R1.out.cell 1
  simp only [List.getElem?_cons_zero, List.getElem?_cons_succ] at p0 p1
  have r0 := R3.out.cell 0
  have r1 := R3.out.cell 1
  have r2 := R3.out.cell 2
  simp only [List.getElem?_cons_zero, List.getElem?_cons_succ] at r0 r1 r2
  go_wp2_with fail
  refine (close_no _ ts18 5000 1 20 25 20 10957 1 10957 2932897 _ [5, 6] 0 0 _ [5, 9] _ [0, 0] false (by decide) 1 (Lib.hid (.inr (.inl ⟨right18, by decide, rfl⟩))) V RT.out RB.out RR.out RN.out).mono ?_
  rintro _ w3 ⟨lv, bv, rfl, hln, hbl, hb3⟩
  obtain ⟨al, ql, rfl⟩ := hln.shape
  obtain ⟨ab, qb, rfl⟩ := hbl.shape
  have HBL := Lib.hid hbl
  have HBF := Lib.hid (bl_tr (bl_tr HB.out RW.out) hb3)
  clear hln hbl hb3 t0 t1 t2 t3 t4 t5 t6 p0 p1 r0 r1 r2
  simp only [List.length_nil] at HBL ⊢
  go_upto_region 27 with fail
  obtain ⟨U, hU, Q10, Q11, QB, QS⟩ : ∃ U, (w3.alloc (.cells #[.int .i64 0, .int .i64 0, .int .i64 0, .int .i64 0, .slice al 0 ql, .int .i64 0, .int .i64 0, .int .i64 0, .bool false] 51)).alloc (.cells #[.slice ab 0 qb, .int .i64 0, .int .i64 0] 46) = U ∧ Hid (Blk U w3.heap.size 51 [.int .i64 0, .int .i64 0, .int .i64 0, .int .i64 0, .slice al 0 ql, .int .i64 0, .int .i64 0, .int .i64 0, .bool false]) ∧ Hid (Blk U (w3.heap.size + 1) 46 [.slice ab 0 qb, .int .i64 0, .int .i64 0]) ∧ Hid (Below w.heap.size w U) ∧ Hid (Sl .i64 U (.slice ab 0 qb) []) :=
    ⟨_, rfl, Blk.below (heap_alloc_new w3 _) (bl_al (Below.refl _ _) _), blk_new (w3.alloc _) _ _ _ (by simp), bl_al (bl_al HBF.out _) _, HBL.out.below (bl_al (bl_al (Below.refl _ _) _) _)⟩
  with_reducible rw [hU]
  clear hU HBL HBF R0 R1 R3 RB RR RN RW RT
  go_wp2_with fail
  refine (awake18_any _).mono ?_
  rintro _ w5 ⟨rfl, hb5⟩
  have HB5 := Lib.hid hb5
  have t0 := (Q10.out.below HB5.out).cell 0
  have t1 := (Q10.out.below HB5.out).cell 1
  have t2 := (Q10.out.below HB5.out).cell 2
  have t3 := (Q10.out.below HB5.out).cell 3
  have t4 := (Q10.out.below HB5.out).cell 4
  have t5 := (Q10.out.below HB5.out).cell 5
  have t6 := (Q10.out.below HB5.out).cell 6
  have t7 := (Q10.out.below HB5.out).cell 7
  have t8 := (Q10.out.below HB5.out).cell 8
  simp only [List.getElem?_cons_zero, List.getElem?_cons_succ] at t0 t1 t2 t3 t4 t5 t6 t7 t8
  have p0 := (Q11.out.below HB5.out).cell 0
  have p1 := (Q11.out.below HB5.out).cell 1
  have p2 := (Q11.out.below HB5.out).cell 2
  simp only [List.getElem?_cons_zero, List.getElem?_cons_succ] at p0 p1 p2
  clear hb5
  go_wp2_with fail
  refine (sameStmt0 al ql _).mono ?_
  rintro _ w6 ⟨rfl, hb6⟩
  have HB6 := Lib.hid (bl_tr HB5.out hb6)
  clear hb6 t0 t1 t2 t3 t4 t5 t6 t7 t8 p0 p1 p2
  have p0 := (Q11.out.below HB6.out).cell 0
  have p1 := (Q11.out.below HB6.out).cell 1
  have p2 := (Q11.out.below HB6.out).cell 2
  simp only [List.getElem?_cons_zero, List.getElem?_cons_succ] at p0 p1 p2
  go_wp2_with fail
  refine (samePos_true (.slice ab 0 qb) (.slice none 0 0) [] 0 0 _ (QS.out.below HB6.out) Sl.nil).mono ?_
  rintro _ w7 ⟨rfl, hb7⟩
  have HB7 := Lib.hid (bl_tr QB.out (bl_tr HB6.out hb7))
  clear hb7
  go_wp2_with fail
  go_ret
  exact ⟨rfl, HB7.out⟩

set_option maxHeartbeats 1600000 in
set_option maxRecDepth 100000 in
theorem refused_5 (x : Int) (h1 : (IntKind.u64.wrap x).tmod 10 = 5) (_h2 : IntKind.u64.wrap x % 10 = 5) (w : World) : Calls Try.prog 11 #[.int .i64 x] w (RetB (.bool true) w) := by
  go_enter Try.func11, Try.ntmps11
  go_wp2_with fail
  refine (terms18_any _).mono ?_
  rintro _ w1 ⟨a1, q1, rfl, ht1, hb1⟩
  have HT2 := Lib.hid ht1
  have HB := Lib.hid hb1
  clear ht1 hb1
  go_upto_region 8 with fail
  obtain ⟨W, hW, S0, S1, S2, S3, S4, S5, SB, ST, SZ⟩ := start18 w1 a1 q1 HT2.out
  with_reducible rw [hW]
  clear hW
  have hB := S3.out
  have s0 := hB.cell 0
  have s1 := hB.frozen 0
  simp only [List.getElem?_cons_zero] at s0
  have hls := hB.lt
  clear hB
  have sz := SZ.out
  go_upto_region 26 with fail
  clear sz
  obtain ⟨V, hV, R0, R1, R3, RB, RR, RN, RW, RT⟩ : ∃ V, (W.setCell ⟨w1.heap.size + 1 + 1 + 1, 0, none⟩ (.slice (some ⟨w1.heap.size + 1 + 1 + 1 + 1 + 1 + 1, 0, none⟩) 1 1)).alloc (.cells #[.int .i64 5] 2) = V ∧ Hid (Blk V w1.heap.size 34 [.int .i64 5000, .slice a1 2 q1, .int .i64 1, .int .i64 20, .int .i64 25, .int .i64 20, .int .i64 10957]) ∧ Hid (Blk V (w1.heap.size + 1) 48 [.int .i64 10957, .int .i64 10987]) ∧ Hid (Blk V (w1.heap.size + 1 + 1 + 1) 46 [.slice (some ⟨w1.heap.size + 1 + 1 + 1 + 1 + 1 + 1, 0, none⟩) 1 1, .int .i64 0, .int .i64 0]) ∧ Hid (Sl .i64 V (.slice (some ⟨w1.heap.size + 1 + 1 + 1 + 1 + 1 + 1, 0, none⟩) 1 1) [5]) ∧ Hid (Sl .i64 V (.slice (some ⟨w1.heap.size + 1 + 1 + 1 + 1, 0, none⟩) 2 2) [5, 9]) ∧ Hid (Sl .i64 V (.slice (some ⟨w1.heap.size + 1 + 1 + 1 + 1 + 1, 0, none⟩) 2 2) [0, 0]) ∧ Hid (Below w1.heap.size w1 V) ∧ Hid (TrS V (.slice a1 2 q1) ts18) :=
    ⟨_, rfl, ((S0.out.setOther (by omega) _ _).below (bl_al (Below.refl _ _) _)), ((S1.out.setOther (by omega) _ _).below (bl_al (Below.refl _ _) _)), ((S3.out.set 0 _).below (bl_al (Below.refl _ _) _)), (Sl.litAt _ 2 [5] 1 _ rfl _ rfl (by unfold maxLen; omega) (by rw [World.size_setCell]; exact SZ.out)), ((S4.out.setCell (fun b o n c e h => by cases e; omega) _).below (bl_al (Below.refl _ _) _)), ((S5.out.setCell (fun b o n c e h => by cases e; omega) _).below (bl_al (Below.refl _ _) _)), (bl_al (SB.out.setCell (show w1.heap.size ≤ w1.heap.size + 1 + 1 + 1 by omega) _) _), (HT2.out.below (bl_al (SB.out.setCell (show w1.heap.size ≤ w1.heap.size + 1 + 1 + 1 by omega) _) _))⟩
  with_reducible rw [hV]
  clear hV S0 S1 S2 S3 S4 S5 SB ST SZ
  clear s0 s1 hls
  have t0 := R0.out.cell 0
  have t1 := R0.out.cell 1
  have t2 := R0.out.cell 2
  have t3 := R0.out.cell 3
  have t4 := R0.out.cell 4
  have t5 := R0.out.cell 5
  have t6 := R0.out.cell 6
  simp only [List.getElem?_cons_zero, List.getElem?_cons_succ] at t0 t1 t2 t3 t4 t5 t6
  have p0 := R1.out.cell 0
  have p1 := R1.out.cell 1
  simp only [List.getElem?_cons_zero, List.getElem?_cons_succ] at p0 p1
  have r0 := R3.out.cell 0
  have r1 := R3.out.cell 1
  have r2 := R3.out.cell 2
  simp only [List.getElem?_cons_zero, List.getElem?_cons_succ] at r0 r1 r2
  go_wp2_with fail
  refine (close_no _ ts18 5000 1 20 25 20 10957 1 10957 10987 _ [5] 0 0 _ [5, 9] _ [0, 0] false (by decide) 1 (Lib.hid (.inr (.inl ⟨right18, by decide, rfl⟩))) V RT.out RB.out RR.out RN.out).mono ?_
  rintro _ w3 ⟨lv, bv, rfl, hln, hbl, hb3⟩
  obtain ⟨al, ql, rfl⟩ := hln.shape
  obtain ⟨ab, qb, rfl⟩ := hbl.shape
  have HBL := Lib.hid hbl
  have HBF := Lib.hid (bl_tr (bl_tr HB.out RW.out) hb3)
  clear hln hbl hb3 t0 t1 t2 t3 t4 t5 t6 p0 p1 r0 r1 r2
  simp only [List.length_nil] at HBL ⊢
  go_upto_region 27 with fail
  obtain ⟨U, hU, Q10, Q11, QB, QS⟩ : ∃ U, (w3.alloc (.cells #[.int .i64 0, .int .i64 0, .int .i64 0, .int .i64 0, .slice al 0 ql, .int .i64 0, .int .i64 0, .int .i64 0, .bool false] 51)).alloc (.cells #[.slice ab 0 qb, .int .i64 0, .int .i64 0] 46) = U ∧ Hid (Blk U w3.heap.size 51 [.int .i64 0, .int .i64 0, .int .i64 0, .int .i64 0, .slice al 0 ql, .int .i64 0, .int .i64 0, .int .i64 0, .bool false]) ∧ Hid (Blk U (w3.heap.size + 1) 46 [.slice ab 0 qb, .int .i64 0, .int .i64 0]) ∧ Hid (Below w.heap.size w U) ∧ Hid (Sl .i64 U (.slice ab 0 qb) []) :=
    ⟨_, rfl, Blk.below (heap_alloc_new w3 _) (bl_al (Below.refl _ _) _), blk_new (w3.alloc _) _ _ _ (by simp), bl_al (bl_al HBF.out _) _, HBL.out.below (bl_al (bl_al (Below.refl _ _) _) _)⟩
  with_reducible rw [hU]
  clear hU HBL HBF R0 R1 R3 RB RR RN RW RT
  go_wp2_with fail
  refine (awake18_any _).mono ?_
  rintro _ w5 ⟨rfl, hb5⟩
  have HB5 := Lib.hid hb5
  have t0 := (Q10.out.below HB5.out).cell 0
  have t1 := (Q10.out.below HB5.out).cell 1
  have t2 := (Q10.out.below HB5.out).cell 2
  have t3 := (Q10.out.below HB5.out).cell 3
  have t4 := (Q10.out.below HB5.out).cell 4
  have t5 := (Q10.out.below HB5.out).cell 5
  have t6 := (Q10.out.below HB5.out).cell 6
  have t7 := (Q10.out.below HB5.out).cell 7
  have t8 := (Q10.out.below HB5.out).cell 8
  simp only [List.getElem?_cons_zero, List.getElem?_cons_succ] at t0 t1 t2 t3 t4 t5 t6 t7 t8
  have p0 := (Q11.out.below HB5.out).cell 0
  have p1 := (Q11.out.below HB5.out).cell 1
  have p2 := (Q11.out.below HB5.out).cell 2
  simp only [List.getElem?_cons_zero, List.getElem?_cons_succ] at p0 p1 p2
  clear hb5
  go_wp2_with fail
  refine (sameStmt0 al ql _).mono ?_
  rintro _ w6 ⟨rfl, hb6⟩
  have HB6 := Lib.hid (bl_tr HB5.out hb6)
  clear hb6 t0 t1 t2 t3 t4 t5 t6 t7 t8 p0 p1 p2
  have p0 := (Q11.out.below HB6.out).cell 0
  have p1 := (Q11.out.below HB6.out).cell 1
  have p2 := (Q11.out.below HB6.out).cell 2
  simp only [List.getElem?_cons_zero, List.getElem?_cons_succ] at p0 p1 p2
  go_wp2_with fail
  refine (samePos_true (.slice ab 0 qb) (.slice none 0 0) [] 0 0 _ (QS.out.below HB6.out) Sl.nil).mono ?_
  rintro _ w7 ⟨rfl, hb7⟩
  have HB7 := Lib.hid (bl_tr QB.out (bl_tr HB6.out hb7))
  clear hb7
  go_wp2_with fail
  go_ret
  exact ⟨rfl, HB7.out⟩

set_option maxHeartbeats 1600000 in
set_option maxRecDepth 100000 in
theorem refused_6 (x : Int) (h1 : (IntKind.u64.wrap x).tmod 10 = 6) (_h2 : IntKind.u64.wrap x % 10 = 6) (w : World) : Calls Try.prog 11 #[.int .i64 x] w (RetB (.bool true) w) := by
  go_enter Try.func11, Try.ntmps11
  go_wp2_with fail
  refine (terms18_any _).mono ?_
  rintro _ w1 ⟨a1, q1, rfl, ht1, hb1⟩
  have HT2 := Lib.hid ht1
  have HB := Lib.hid hb1
  clear ht1 hb1
  go_upto_region 8 with fail
  obtain ⟨W, hW, S0, S1, S2, S3, S4, S5, SB, ST, SZ⟩ := start18 w1 a1 q1 HT2.out
  with_reducible rw [hW]
  clear hW
  have sz := SZ.out
  go_upto_region 26 with fail
  clear sz
  obtain ⟨V, hV, R0, R1, R3, RB, RR, RN, RW, RT⟩ : ∃ V, (W).alloc (.cells #[.int .i64 5, .int .i64 (-1)] 2) = V ∧ Hid (Blk V w1.heap.size 34 [.int .i64 5000, .slice a1 2 q1, .int .i64 1, .int .i64 20, .int .i64 25, .int .i64 20, .int .i64 10957]) ∧ Hid (Blk V (w1.heap.size + 1) 48 [.int .i64 10957, .int .i64 10987]) ∧ Hid (Blk V (w1.heap.size + 1 + 1 + 1) 46 [.slice (some ⟨w1.heap.size + 1 + 1, 0, none⟩) 2 2, .int .i64 0, .int .i64 0]) ∧ Hid (Sl .i64 V (.slice (some ⟨w1.heap.size + 1 + 1, 0, none⟩) 2 2) [5, 6]) ∧ Hid (Sl .i64 V (.slice (some ⟨w1.heap.size + 1 + 1 + 1 + 1 + 1 + 1, 0, none⟩) 2 2) [5, -1]) ∧ Hid (Sl .i64 V (.slice (some ⟨w1.heap.size + 1 + 1 + 1 + 1 + 1, 0, none⟩) 2 2) [0, 0]) ∧ Hid (Below w1.heap.size w1 V) ∧ Hid (TrS V (.slice a1 2 q1) ts18) :=
    ⟨_, rfl, (S0.out.below (bl_al (Below.refl _ _) _)), (S1.out.below (bl_al (Below.refl _ _) _)), (S3.out.below (bl_al (Below.refl _ _) _)), (S2.out.below (bl_al (Below.refl _ _) _)), (Sl.litAt _ 2 [5, -1] 2 _ rfl _ rfl (by unfold maxLen; omega) (SZ.out)), (S5.out.below (bl_al (Below.refl _ _) _)), (bl_al SB.out _), (HT2.out.below (bl_al SB.out _))⟩
  with_reducible rw [hV]
  clear hV S0 S1 S2 S3 S4 S5 SB ST SZ

  have t0 := R0.out.cell 0
  have t1 := R0.out.cell 1
  have t2 := R0.out.cell 2
  have t3 := R0.out.cell 3
  have t4 := R0.out.cell 4
  have t5 := R0.out.cell 5
  have t6 := R0.out.cell 6
  simp only [List.getElem?_cons_zero, List.getElem?_cons_succ] at t0 t1 t2 t3 t4 t5 t6
  have p0 := R1.out.cell 0
  have p1 := R1.out.cell 1
  simp only [List.getElem?_cons_zero, List.getElem?_cons_succ] at p0 p1
  have r0 := R3.out.cell 0
  have r1 := R3.out.cell 1
  have r2 := R3.out.cell 2
  simp only [List.getElem?_cons_zero, List.getElem?_cons_succ] at r0 r1 r2
  go_wp2_with fail
  refine (close_no _ ts18 5000 1 20 25 20 10957 1 10957 10987 _ [5, 6] 0 0 _ [5, -1] _ [0, 0] false (by decide) 1 (Lib.hid (.inr (.inr ⟨⟨right18, by decide⟩, .inl ⟨by decide, rfl⟩⟩))) V RT.out RB.out RR.out RN.out).mono ?_
  rintro _ w3 ⟨lv, bv, rfl, hln, hbl, hb3⟩
  obtain ⟨al, ql, rfl⟩ := hln.shape
  obtain ⟨ab, qb, rfl⟩ := hbl.shape
  have HBL := Lib.hid hbl
  have HBF := Lib.hid (bl_tr (bl_tr HB.out RW.out) hb3)
  clear hln hbl hb3 t0 t1 t2 t3 t4 t5 t6 p0 p1 r0 r1 r2
  simp only [List.length_nil] at HBL ⊢
  go_upto_region 27 with fail
  obtain ⟨U, hU, Q10, Q11, QB, QS⟩ : ∃ U, (w3.alloc (.cells #[.int .i64 0, .int .i64 0, .int .i64 0, .int .i64 0, .slice al 0 ql, .int .i64 0, .int .i64 0, .int .i64 0, .bool false] 51)).alloc (.cells #[.slice ab 0 qb, .int .i64 0, .int .i64 0] 46) = U ∧ Hid (Blk U w3.heap.size 51 [.int .i64 0, .int .i64 0, .int .i64 0, .int .i64 0, .slice al 0 ql, .int .i64 0, .int .i64 0, .int .i64 0, .bool false]) ∧ Hid (Blk U (w3.heap.size + 1) 46 [.slice ab 0 qb, .int .i64 0, .int .i64 0]) ∧ Hid (Below w.heap.size w U) ∧ Hid (Sl .i64 U (.slice ab 0 qb) []) :=
    ⟨_, rfl, Blk.below (heap_alloc_new w3 _) (bl_al (Below.refl _ _) _), blk_new (w3.alloc _) _ _ _ (by simp), bl_al (bl_al HBF.out _) _, HBL.out.below (bl_al (bl_al (Below.refl _ _) _) _)⟩
  with_reducible rw [hU]
  clear hU HBL HBF R0 R1 R3 RB RR RN RW RT
  go_wp2_with fail
  refine (awake18_any _).mono ?_
  rintro _ w5 ⟨rfl, hb5⟩
  have HB5 := Lib.hid hb5
  have t0 := (Q10.out.below HB5.out).cell 0
  have t1 := (Q10.out.below HB5.out).cell 1
  have t2 := (Q10.out.below HB5.out).cell 2
  have t3 := (Q10.out.below HB5.out).cell 3
  have t4 := (Q10.out.below HB5.out).cell 4
  have t5 := (Q10.out.below HB5.out).cell 5
  have t6 := (Q10.out.below HB5.out).cell 6
  have t7 := (Q10.out.below HB5.out).cell 7
  have t8 := (Q10.out.below HB5.out).cell 8
  simp only [List.getElem?_cons_zero, List.getElem?_cons_succ] at t0 t1 t2 t3 t4 t5 t6 t7 t8
  have p0 := (Q11.out.below HB5.out).cell 0
  have p1 := (Q11.out.below HB5.out).cell 1
  have p2 := (Q11.out.below HB5.out).cell 2
  simp only [List.getElem?_cons_zero, List.getElem?_cons_succ] at p0 p1 p2
  clear hb5
  go_wp2_with fail
  refine (sameStmt0 al ql _).mono ?_
  rintro _ w6 ⟨rfl, hb6⟩
  have HB6 := Lib.hid (bl_tr HB5.out hb6)
  clear hb6 t0 t1 t2 t3 t4 t5 t6 t7 t8 p0 p1 p2
  have p0 := (Q11.out.below HB6.out).cell 0
  have p1 := (Q11.out.below HB6.out).cell 1
  have p2 := (Q11.out.below HB6.out).cell 2
  simp only [List.getElem?_cons_zero, List.getElem?_cons_succ] at p0 p1 p2
  go_wp2_with fail
  refine (samePos_true (.slice ab 0 qb) (.slice none 0 0) [] 0 0 _ (QS.out.below HB6.out) Sl.nil).mono ?_
  rintro _ w7 ⟨rfl, hb7⟩
  have HB7 := Lib.hid (bl_tr QB.out (bl_tr HB6.out hb7))
  clear hb7
  go_wp2_with fail
  go_ret
  exact ⟨rfl, HB7.out⟩

set_option maxHeartbeats 1600000 in
set_option maxRecDepth 100000 in
theorem refused_7 (x : Int) (h1 : (IntKind.u64.wrap x).tmod 10 = 7) (_h2 : IntKind.u64.wrap x % 10 = 7) (w : World) : Calls Try.prog 11 #[.int .i64 x] w (RetB (.bool true) w) := by
  go_enter Try.func11, Try.ntmps11
  go_wp2_with fail
  refine (terms18_any _).mono ?_
  rintro _ w1 ⟨a1, q1, rfl, ht1, hb1⟩
  have HT2 := Lib.hid ht1
  have HB := Lib.hid hb1
  clear ht1 hb1
  go_upto_region 8 with fail
  obtain ⟨W, hW, S0, S1, S2, S3, S4, S5, SB, ST, SZ⟩ := start18 w1 a1 q1 HT2.out
  with_reducible rw [hW]
  clear hW
  have sz := SZ.out
  go_upto_region 26 with fail
  clear sz
  obtain ⟨V, hV, R0, R1, R3, RB, RR, RN, RW, RT⟩ : ∃ V, (W).alloc (.cells #[.int .i64 1] 2) = V ∧ Hid (Blk V w1.heap.size 34 [.int .i64 5000, .slice a1 2 q1, .int .i64 1, .int .i64 20, .int .i64 25, .int .i64 20, .int .i64 10957]) ∧ Hid (Blk V (w1.heap.size + 1) 48 [.int .i64 10957, .int .i64 10987]) ∧ Hid (Blk V (w1.heap.size + 1 + 1 + 1) 46 [.slice (some ⟨w1.heap.size + 1 + 1, 0, none⟩) 2 2, .int .i64 0, .int .i64 0]) ∧ Hid (Sl .i64 V (.slice (some ⟨w1.heap.size + 1 + 1, 0, none⟩) 2 2) [5, 6]) ∧ Hid (Sl .i64 V (.slice (some ⟨w1.heap.size + 1 + 1 + 1 + 1, 0, none⟩) 2 2) [5, 9]) ∧ Hid (Sl .i64 V (.slice (some ⟨w1.heap.size + 1 + 1 + 1 + 1 + 1 + 1, 0, none⟩) 1 1) [1]) ∧ Hid (Below w1.heap.size w1 V) ∧ Hid (TrS V (.slice a1 2 q1) ts18) :=
    ⟨_, rfl, (S0.out.below (bl_al (Below.refl _ _) _)), (S1.out.below (bl_al (Below.refl _ _) _)), (S3.out.below (bl_al (Below.refl _ _) _)), (S2.out.below (bl_al (Below.refl _ _) _)), (S4.out.below (bl_al (Below.refl _ _) _)), (Sl.litAt _ 2 [1] 1 _ rfl _ rfl (by unfold maxLen; omega) (SZ.out)), (bl_al SB.out _), (HT2.out.below (bl_al SB.out _))⟩
  with_reducible rw [hV]
  clear hV S0 S1 S2 S3 S4 S5 SB ST SZ

  have t0 := R0.out.cell 0
  have t1 := R0.out.cell 1
  have t2 := R0.out.cell 2
  have t3 := R0.out.cell 3
  have t4 := R0.out.cell 4
  have t5 := R0.out.cell 5
  have t6 := R0.out.cell 6
  simp only [List.getElem?_cons_zero, List.getElem?_cons_succ] at t0 t1 t2 t3 t4 t5 t6
  have p0 := R1.out.cell 0
  have p1 := R1.out.cell 1
  simp only [List.getElem?_cons_zero, List.getElem?_cons_succ] at p0 p1
  have r0 := R3.out.cell 0
  have r1 := R3.out.cell 1
  have r2 := R3.out.cell 2
  simp only [List.getElem?_cons_zero, List.getElem?_cons_succ] at r0 r1 r2
  go_wp2_with fail
  refine (close_no _ ts18 5000 1 20 25 20 10957 1 10957 10987 _ [5, 6] 0 0 _ [5, 9] _ [1] false (by decide) 1 (Lib.hid (.inr (.inr ⟨⟨right18, by decide⟩, .inr ⟨by decide, by decide, [], 0, 0, by decide⟩⟩))) V RT.out RB.out RR.out RN.out).mono ?_
  rintro _ w3 ⟨lv, bv, rfl, hln, hbl, hb3⟩
  obtain ⟨al, ql, rfl⟩ := hln.shape
  obtain ⟨ab, qb, rfl⟩ := hbl.shape
  have HBL := Lib.hid hbl
  have HBF := Lib.hid (bl_tr (bl_tr HB.out RW.out) hb3)
  clear hln hbl hb3 t0 t1 t2 t3 t4 t5 t6 p0 p1 r0 r1 r2
  simp only [List.length_nil] at HBL ⊢
  go_upto_region 27 with fail
  obtain ⟨U, hU, Q10, Q11, QB, QS⟩ : ∃ U, (w3.alloc (.cells #[.int .i64 0, .int .i64 0, .int .i64 0, .int .i64 0, .slice al 0 ql, .int .i64 0, .int .i64 0, .int .i64 0, .bool false] 51)).alloc (.cells #[.slice ab 0 qb, .int .i64 0, .int .i64 0] 46) = U ∧ Hid (Blk U w3.heap.size 51 [.int .i64 0, .int .i64 0, .int .i64 0, .int .i64 0, .slice al 0 ql, .int .i64 0, .int .i64 0, .int .i64 0, .bool false]) ∧ Hid (Blk U (w3.heap.size + 1) 46 [.slice ab 0 qb, .int .i64 0, .int .i64 0]) ∧ Hid (Below w.heap.size w U) ∧ Hid (Sl .i64 U (.slice ab 0 qb) []) :=
    ⟨_, rfl, Blk.below (heap_alloc_new w3 _) (bl_al (Below.refl _ _) _), blk_new (w3.alloc _) _ _ _ (by simp), bl_al (bl_al HBF.out _) _, HBL.out.below (bl_al (bl_al (Below.refl _ _) _) _)⟩
  with_reducible rw [hU]
  clear hU HBL HBF R0 R1 R3 RB RR RN RW RT
  go_wp2_with fail
  refine (awake18_any _).mono ?_
  rintro _ w5 ⟨rfl, hb5⟩
  have HB5 := Lib.hid hb5
  have t0 := (Q10.out.below HB5.out).cell 0
  have t1 := (Q10.out.below HB5.out).cell 1
  have t2 := (Q10.out.below HB5.out).cell 2
  have t3 := (Q10.out.below HB5.out).cell 3
  have t4 := (Q10.out.below HB5.out).cell 4
  have t5 := (Q10.out.below HB5.out).cell 5
  have t6 := (Q10.out.below HB5.out).cell 6
  have t7 := (Q10.out.below HB5.out).cell 7
  have t8 := (Q10.out.below HB5.out).cell 8
  simp only [List.getElem?_cons_zero, List.getElem?_cons_succ] at t0 t1 t2 t3 t4 t5 t6 t7 t8
  have p0 := (Q11.out.below HB5.out).cell 0
  have p1 := (Q11.out.below HB5.out).cell 1
  have p2 := (Q11.out.below HB5.out).cell 2
  simp only [List.getElem?_cons_zero, List.getElem?_cons_succ] at p0 p1 p2
  clear hb5
  go_wp2_with fail
  refine (sameStmt0 al ql _).mono ?_
  rintro _ w6 ⟨rfl, hb6⟩
  have HB6 := Lib.hid (bl_tr HB5.out hb6)
  clear hb6 t0 t1 t2 t3 t4 t5 t6 t7 t8 p0 p1 p2
  have p0 := (Q11.out.below HB6.out).cell 0
  have p1 := (Q11.out.below HB6.out).cell 1
  have p2 := (Q11.out.below HB6.out).cell 2
  simp only [List.getElem?_cons_zero, List.getElem?_cons_succ] at p0 p1 p2
  go_wp2_with fail
  refine (samePos_true (.slice ab 0 qb) (.slice none 0 0) [] 0 0 _ (QS.out.below HB6.out) Sl.nil).mono ?_
  rintro _ w7 ⟨rfl, hb7⟩
  have HB7 := Lib.hid (bl_tr QB.out (bl_tr HB6.out hb7))
  clear hb7
  go_wp2_with fail
  go_ret
  exact ⟨rfl, HB7.out⟩

set_option maxHeartbeats 1600000 in
set_option maxRecDepth 100000 in
theorem refused_8 (x : Int) (h1 : (IntKind.u64.wrap x).tmod 10 = 8) (_h2 : IntKind.u64.wrap x % 10 = 8) (w : World) : Calls Try.prog 11 #[.int .i64 x] w (RetB (.bool true) w) := by
  go_enter Try.func11, Try.ntmps11
  go_wp2_with fail
  refine (terms18_any _).mono ?_
  rintro _ w1 ⟨a1, q1, rfl, ht1, hb1⟩
  have HT2 := Lib.hid ht1
  have HB := Lib.hid hb1
  clear ht1 hb1
  go_upto_region 8 with fail
  obtain ⟨W, hW, S0, S1, S2, S3, S4, S5, SB, ST, SZ⟩ := start18 w1 a1 q1 HT2.out
  with_reducible rw [hW]
  clear hW
  have hB := S3.out
  have s0 := hB.cell 1
  have s1 := hB.frozen 1
  simp only [List.getElem?_cons_zero, List.getElem?_cons_succ] at s0
  have hls := hB.lt
  clear hB
  have sz := SZ.out
  go_upto_region 26 with fail
  clear sz
  obtain ⟨V, hV, R0, R1, R3, RB, RR, RN, RW, RT⟩ : ∃ V, W.setCell ⟨w1.heap.size + 1 + 1 + 1, 1, none⟩ (.int .i64 3) = V ∧ Hid (Blk V w1.heap.size 34 [.int .i64 5000, .slice a1 2 q1, .int .i64 1, .int .i64 20, .int .i64 25, .int .i64 20, .int .i64 10957]) ∧ Hid (Blk V (w1.heap.size + 1) 48 [.int .i64 10957, .int .i64 10987]) ∧ Hid (Blk V (w1.heap.size + 1 + 1 + 1) 46 [.slice (some ⟨w1.heap.size + 1 + 1, 0, none⟩) 2 2, .int .i64 3, .int .i64 0]) ∧ Hid (Sl .i64 V (.slice (some ⟨w1.heap.size + 1 + 1, 0, none⟩) 2 2) [5, 6]) ∧ Hid (Sl .i64 V (.slice (some ⟨w1.heap.size + 1 + 1 + 1 + 1, 0, none⟩) 2 2) [5, 9]) ∧ Hid (Sl .i64 V (.slice (some ⟨w1.heap.size + 1 + 1 + 1 + 1 + 1, 0, none⟩) 2 2) [0, 0]) ∧ Hid (Below w1.heap.size w1 V) ∧ Hid (TrS V (.slice a1 2 q1) ts18) :=
    ⟨_, rfl, (S0.out.setOther (by omega) _ _), (S1.out.setOther (by omega) _ _), (S3.out.set 1 _), (S2.out.setCell (fun b o n c e h => by cases e; omega) _), (S4.out.setCell (fun b o n c e h => by cases e; omega) _), (S5.out.setCell (fun b o n c e h => by cases e; omega) _), (SB.out.setCell (show w1.heap.size ≤ w1.heap.size + 1 + 1 + 1 by omega) _), (HT2.out.below (SB.out.setCell (show w1.heap.size ≤ w1.heap.size + 1 + 1 + 1 by omega) _))⟩
  with_reducible rw [hV]
  clear hV S0 S1 S2 S3 S4 S5 SB ST SZ
  clear s0 s1 hls
  have t0 := R0.out.cell 0
  have t1 := R0.out.cell 1
  have t2 := R0.out.cell 2
  have t3 := R0.out.cell 3
  have t4 := R0.out.cell 4
  have t5 := R0.out.cell 5
  have t6 := R0.out.cell 6
  simp only [List.getElem?_cons_zero, List.getElem?_cons_succ] at t0 t1 t2 t3 t4 t5 t6
  have p0 := R1.out.cell 0
  have p1 := R1.out.cell 1
  simp only [List.getElem?_cons_zero, List.getElem?_cons_succ] at p0 p1
  have r0 := R3.out.cell 0
  have r1 := R3.out.cell 1
  have r2 := R3.out.cell 2
  simp only [List.getElem?_cons_zero, List.getElem?_cons_succ] at r0 r1 r2
  go_wp2_with fail
  refine (close_no _ ts18 5000 1 20 25 20 10957 1 10957 10987 _ [5, 6] 3 0 _ [5, 9] _ [0, 0] false (by decide) 1 (Lib.hid (.inr (.inr ⟨⟨right18, by decide⟩, .inr ⟨by decide, by decide, [], 0, 0, by decide⟩⟩))) V RT.out RB.out RR.out RN.out).mono ?_
  rintro _ w3 ⟨lv, bv, rfl, hln, hbl, hb3⟩
  obtain ⟨al, ql, rfl⟩ := hln.shape
  obtain ⟨ab, qb, rfl⟩ := hbl.shape
  have HBL := Lib.hid hbl
  have HBF := Lib.hid (bl_tr (bl_tr HB.out RW.out) hb3)
  clear hln hbl hb3 t0 t1 t2 t3 t4 t5 t6 p0 p1 r0 r1 r2
  simp only [List.length_nil] at HBL ⊢
  go_upto_region 27 with fail
  obtain ⟨U, hU, Q10, Q11, QB, QS⟩ : ∃ U, (w3.alloc (.cells #[.int .i64 0, .int .i64 0, .int .i64 0, .int .i64 0, .slice al 0 ql, .int .i64 0, .int .i64 0, .int .i64 0, .bool false] 51)).alloc (.cells #[.slice ab 0 qb, .int .i64 0, .int .i64 0] 46) = U ∧ Hid (Blk U w3.heap.size 51 [.int .i64 0, .int .i64 0, .int .i64 0, .int .i64 0, .slice al 0 ql, .int .i64 0, .int .i64 0, .int .i64 0, .bool false]) ∧ Hid (Blk U (w3.heap.size + 1) 46 [.slice ab 0 qb, .int .i64 0, .int .i64 0]) ∧ Hid (Below w.heap.size w U) ∧ Hid (Sl .i64 U (.slice ab 0 qb) []) :=
    ⟨_, rfl, Blk.below (heap_alloc_new w3 _) (bl_al (Below.refl _ _) _), blk_new (w3.alloc _) _ _ _ (by simp), bl_al (bl_al HBF.out _) _, HBL.out.below (bl_al (bl_al (Below.refl _ _) _) _)⟩
  with_reducible rw [hU]
  clear hU HBL HBF R0 R1 R3 RB RR RN RW RT
  go_wp2_with fail
  refine (awake18_any _).mono ?_
  rintro _ w5 ⟨rfl, hb5⟩
  have HB5 := Lib.hid hb5
  have t0 := (Q10.out.below HB5.out).cell 0
  have t1 := (Q10.out.below HB5.out).cell 1
  have t2 := (Q10.out.below HB5.out).cell 2
  have t3 := (Q10.out.below HB5.out).cell 3
  have t4 := (Q10.out.below HB5.out).cell 4
  have t5 := (Q10.out.below HB5.out).cell 5
  have t6 := (Q10.out.below HB5.out).cell 6
  have t7 := (Q10.out.below HB5.out).cell 7
  have t8 := (Q10.out.below HB5.out).cell 8
  simp only [List.getElem?_cons_zero, List.getElem?_cons_succ] at t0 t1 t2 t3 t4 t5 t6 t7 t8
  have p0 := (Q11.out.below HB5.out).cell 0
  have p1 := (Q11.out.below HB5.out).cell 1
  have p2 := (Q11.out.below HB5.out).cell 2
  simp only [List.getElem?_cons_zero, List.getElem?_cons_succ] at p0 p1 p2
  clear hb5
  go_wp2_with fail
  refine (sameStmt0 al ql _).mono ?_
  rintro _ w6 ⟨rfl, hb6⟩
  have HB6 := Lib.hid (bl_tr HB5.out hb6)
  clear hb6 t0 t1 t2 t3 t4 t5 t6 t7 t8 p0 p1 p2
  have p0 := (Q11.out.below HB6.out).cell 0
  have p1 := (Q11.out.below HB6.out).cell 1
  have p2 := (Q11.out.below HB6.out).cell 2
  simp only [List.getElem?_cons_zero, List.getElem?_cons_succ] at p0 p1 p2
  go_wp2_with fail
  refine (samePos_true (.slice ab 0 qb) (.slice none 0 0) [] 0 0 _ (QS.out.below HB6.out) Sl.nil).mono ?_
  rintro _ w7 ⟨rfl, hb7⟩
  have HB7 := Lib.hid (bl_tr QB.out (bl_tr HB6.out hb7))
  clear hb7
  go_wp2_with fail
  go_ret
  exact ⟨rfl, HB7.out⟩

set_option maxHeartbeats 1600000 in
set_option maxRecDepth 100000 in
theorem refused_9 (x : Int) (h1 : (IntKind.u64.wrap x).tmod 10 = 9) (_h2 : IntKind.u64.wrap x % 10 = 9) (w : World) : Calls Try.prog 11 #[.int .i64 x] w (RetB (.bool true) w) := by
  go_enter Try.func11, Try.ntmps11
  go_wp2_with fail
  refine (terms18_any _).mono ?_
  rintro _ w1 ⟨a1, q1, rfl, ht1, hb1⟩
  have HT2 := Lib.hid ht1
  have HB := Lib.hid hb1
  clear ht1 hb1
  go_upto_region 8 with fail
  obtain ⟨W, hW, S0, S1, S2, S3, S4, S5, SB, ST, SZ⟩ := start18 w1 a1 q1 HT2.out
  with_reducible rw [hW]
  clear hW
  have sz := SZ.out
  go_upto_region 26 with fail
  clear sz
  obtain ⟨V, hV, R0, R1, R3, RB, RR, RN, RW, RT⟩ : ∃ V, (W).alloc (.cells #[.int .i64 1000000000000000, .int .i64 0] 2) = V ∧ Hid (Blk V w1.heap.size 34 [.int .i64 5000, .slice a1 2 q1, .int .i64 1, .int .i64 20, .int .i64 25, .int .i64 20, .int .i64 10957]) ∧ Hid (Blk V (w1.heap.size + 1) 48 [.int .i64 10957, .int .i64 10987]) ∧ Hid (Blk V (w1.heap.size + 1 + 1 + 1) 46 [.slice (some ⟨w1.heap.size + 1 + 1, 0, none⟩) 2 2, .int .i64 0, .int .i64 0]) ∧ Hid (Sl .i64 V (.slice (some ⟨w1.heap.size + 1 + 1, 0, none⟩) 2 2) [5, 6]) ∧ Hid (Sl .i64 V (.slice (some ⟨w1.heap.size + 1 + 1 + 1 + 1, 0, none⟩) 2 2) [5, 9]) ∧ Hid (Sl .i64 V (.slice (some ⟨w1.heap.size + 1 + 1 + 1 + 1 + 1 + 1, 0, none⟩) 2 2) [1000000000000000, 0]) ∧ Hid (Below w1.heap.size w1 V) ∧ Hid (TrS V (.slice a1 2 q1) ts18) :=
    ⟨_, rfl, (S0.out.below (bl_al (Below.refl _ _) _)), (S1.out.below (bl_al (Below.refl _ _) _)), (S3.out.below (bl_al (Below.refl _ _) _)), (S2.out.below (bl_al (Below.refl _ _) _)), (S4.out.below (bl_al (Below.refl _ _) _)), (Sl.litAt _ 2 [1000000000000000, 0] 2 _ rfl _ rfl (by unfold maxLen; omega) (SZ.out)), (bl_al SB.out _), (HT2.out.below (bl_al SB.out _))⟩
  with_reducible rw [hV]
  clear hV S0 S1 S2 S3 S4 S5 SB ST SZ

  have t0 := R0.out.cell 0
  have t1 := R0.out.cell 1
  have t2 := R0.out.cell 2
  have t3 := R0.out.cell 3
  have t4 := R0.out.cell 4
  have t5 := R0.out.cell 5
  have t6 := R0.out.cell 6
  simp only [List.getElem?_cons_zero, List.getElem?_cons_succ] at t0 t1 t2 t3 t4 t5 t6
  have p0 := R1.out.cell 0
  have p1 := R1.out.cell 1
  simp only [List.getElem?_cons_zero, List.getElem?_cons_succ] at p0 p1
  have r0 := R3.out.cell 0
  have r1 := R3.out.cell 1
  have r2 := R3.out.cell 2
  simp only [List.getElem?_cons_zero, List.getElem?_cons_succ] at r0 r1 r2
  go_wp2_with fail
  refine (close_no _ ts18 5000 1 20 25 20 10957 1 10957 10987 _ [5, 6] 0 0 _ [5, 9] _ [1000000000000000, 0] false (by decide) 5 (Lib.hid (.inr (.inr ⟨⟨right18, by decide⟩, .inr ⟨by decide, by decide, [], 0, 0, by decide⟩⟩))) V RT.out RB.out RR.out RN.out).mono ?_
  rintro _ w3 ⟨lv, bv, rfl, hln, hbl, hb3⟩
  obtain ⟨al, ql, rfl⟩ := hln.shape
  obtain ⟨ab, qb, rfl⟩ := hbl.shape
  have HBL := Lib.hid hbl
  have HBF := Lib.hid (bl_tr (bl_tr HB.out RW.out) hb3)
  clear hln hbl hb3 t0 t1 t2 t3 t4 t5 t6 p0 p1 r0 r1 r2
  simp only [List.length_nil] at HBL ⊢
  go_upto_region 27 with fail
  obtain ⟨U, hU, Q10, Q11, QB, QS⟩ : ∃ U, (w3.alloc (.cells #[.int .i64 0, .int .i64 0, .int .i64 0, .int .i64 0, .slice al 0 ql, .int .i64 0, .int .i64 0, .int .i64 0, .bool false] 51)).alloc (.cells #[.slice ab 0 qb, .int .i64 0, .int .i64 0] 46) = U ∧ Hid (Blk U w3.heap.size 51 [.int .i64 0, .int .i64 0, .int .i64 0, .int .i64 0, .slice al 0 ql, .int .i64 0, .int .i64 0, .int .i64 0, .bool false]) ∧ Hid (Blk U (w3.heap.size + 1) 46 [.slice ab 0 qb, .int .i64 0, .int .i64 0]) ∧ Hid (Below w.heap.size w U) ∧ Hid (Sl .i64 U (.slice ab 0 qb) []) :=
    ⟨_, rfl, Blk.below (heap_alloc_new w3 _) (bl_al (Below.refl _ _) _), blk_new (w3.alloc _) _ _ _ (by simp), bl_al (bl_al HBF.out _) _, HBL.out.below (bl_al (bl_al (Below.refl _ _) _) _)⟩
  with_reducible rw [hU]
  clear hU HBL HBF R0 R1 R3 RB RR RN RW RT
  go_wp2_with fail
  refine (awake18_any _).mono ?_
  rintro _ w5 ⟨rfl, hb5⟩
  have HB5 := Lib.hid hb5
  have t0 := (Q10.out.below HB5.out).cell 0
  have t1 := (Q10.out.below HB5.out).cell 1
  have t2 := (Q10.out.below HB5.out).cell 2
  have t3 := (Q10.out.below HB5.out).cell 3
  have t4 := (Q10.out.below HB5.out).cell 4
  have t5 := (Q10.out.below HB5.out).cell 5
  have t6 := (Q10.out.below HB5.out).cell 6
  have t7 := (Q10.out.below HB5.out).cell 7
  have t8 := (Q10.out.below HB5.out).cell 8
  simp only [List.getElem?_cons_zero, List.getElem?_cons_succ] at t0 t1 t2 t3 t4 t5 t6 t7 t8
  have p0 := (Q11.out.below HB5.out).cell 0
  have p1 := (Q11.out.below HB5.out).cell 1
  have p2 := (Q11.out.below HB5.out).cell 2
  simp only [List.getElem?_cons_zero, List.getElem?_cons_succ] at p0 p1 p2
  clear hb5
  go_wp2_with fail
  refine (sameStmt0 al ql _).mono ?_
  rintro _ w6 ⟨rfl, hb6⟩
  have HB6 := Lib.hid (bl_tr HB5.out hb6)
  clear hb6 t0 t1 t2 t3 t4 t5 t6 t7 t8 p0 p1 p2
  have p0 := (Q11.out.below HB6.out).cell 0
  have p1 := (Q11.out.below HB6.out).cell 1
  have p2 := (Q11.out.below HB6.out).cell 2
  simp only [List.getElem?_cons_zero, List.getElem?_cons_succ] at p0 p1 p2
  go_wp2_with fail
  refine (samePos_true (.slice ab 0 qb) (.slice none 0 0) [] 0 0 _ (QS.out.below HB6.out) Sl.nil).mono ?_
  rintro _ w7 ⟨rfl, hb7⟩
  have HB7 := Lib.hid (bl_tr QB.out (bl_tr HB6.out hb7))
  clear hb7
  go_wp2_with fail
  go_ret
  exact ⟨rfl, HB7.out⟩

theorem closingRefused_any (x : Int) (w : World) : Calls Try.prog 11 #[.int .i64 x] w (RetB (.bool true) w) := by
  have h0 : 0 ≤ IntKind.u64.wrap x := by rw [IntKind.wrap_u64]; omega
  obtain ⟨N, hN⟩ : ∃ N, IntKind.u64.wrap x % 10 = N := ⟨_, rfl⟩
  have hT : (IntKind.u64.wrap x).tmod 10 = N := by rw [Int.tmod_eq_emod_of_nonneg h0]; exact hN
  have hr : 0 ≤ N ∧ N < 10 := by omega
  have : N = 0 ∨ N = 1 ∨ N = 2 ∨ N = 3 ∨ N = 4 ∨ N = 5 ∨ N = 6 ∨ N = 7 ∨ N = 8 ∨ N = 9 := by omega
  rcases this with rfl | rfl | rfl | rfl | rfl | rfl | rfl | rfl | rfl | rfl
  · exact refused_0 x hT hN w
  · exact refused_1 x hT hN w
  · exact refused_2 x hT hN w
  · exact refused_3 x hT hN w
  · exact refused_4 x hT hN w
  · exact refused_5 x hT hN w
  · exact refused_6 x hT hN w
  · exact refused_7 x hT hN w
  · exact refused_8 x hT hN w
  · exact refused_9 x hT hN w
end Go.Proofs.Ytllblmoojohffaa
