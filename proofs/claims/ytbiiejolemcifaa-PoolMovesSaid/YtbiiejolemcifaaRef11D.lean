/- lombardref11.Charge. -/
import Derived.Test.YtbiiejolemcifaaRef11C
namespace Go.Proofs.Ytbiiejolemcifaa
open Go.RowKit

set_option maxHeartbeats 1600000 in
set_option maxRecDepth 100000 in
theorem refCharge11_no (v : Value) (bs : List Int) (c d k am e : Int) (he : Hid (askedE bs c d am [k] = e)) (hne : (e != 0) = true) (w : World) (hv : Sl .i64 w v bs) :
    Calls Try.prog 21 #[.agg #[v, .int .i64 c, .int .i64 d], .int .i64 k, .int .i64 am] w (RetPos ([], 0, 0, e) w) := by
  have HV := Lib.hid hv
  obtain ⟨ao, cap, rfl, h1, ⟨h2, _⟩, h3⟩ := hv
  clear h3
  unfold maxLen at h2
  have HBLK : Hid (Blk ((w.alloc (.cells #[.slice ao bs.length cap, .int .i64 c, .int .i64 d] 25)).alloc (.cells #[.slice none 0 0, .int .i64 0, .int .i64 0] 25)) (w.heap.size + 1) 25 [.slice none 0 0, .int .i64 0, .int .i64 0]) := by
    have := heap_alloc_new (w.alloc (.cells #[.slice ao bs.length cap, .int .i64 c, .int .i64 d] 25)) (.cells #[.slice none 0 0, .int .i64 0, .int .i64 0] 25)
    simpa [Blk, Hid] using this
  have hB0 : Blk (w.alloc (.cells #[.slice ao bs.length cap, .int .i64 c, .int .i64 d] 25)) w.heap.size 25 [.slice ao bs.length cap, .int .i64 c, .int .i64 d] := heap_alloc_new w _
  have HB0 := Lib.hid (hB0.below (bl_al (Below.refl _ _) (.cells #[.slice none 0 0, .int .i64 0, .int .i64 0] 25)))
  have HW0 : Hid (Below w.heap.size w ((w.alloc (.cells #[.slice ao bs.length cap, .int .i64 c, .int .i64 d] 25)).alloc (.cells #[.slice none 0 0, .int .i64 0, .int .i64 0] 25))) := bl_al (bl_al (Below.refl _ _) _) _
  clear hB0
  go_enter Try.func21, Try.ntmps21
  go_wp2_with fail
  refine (refAsked11_any _ bs c d k am e he _ (HV.out.below HW0.out)).mono ?_
  rintro _ w1 ⟨rfl, hb1⟩
  have hbf := bl_tr HW0.out hb1
  have hR := HBLK.out.below hb1
  have r0 := hR.cell 0
  have r1 := hR.cell 1
  have r2 := hR.cell 2
  simp only [List.getElem?_cons_zero, List.getElem?_cons_succ] at r0 r1 r2
  have f0 := hR.frozen 0
  have f1 := hR.frozen 1
  have f2 := hR.frozen 2
  have hlt := hR.lt
  clear hR
  clear hb1
  go_wp2
  refine bodyPost_ret (v := .tuple #[.agg #[.slice none 0 0, .int .i64 0, .int .i64 0], .int .i64 e]) (by simp [results, Try.results21, go_sem, r0, r1, r2]) rfl ⟨.slice none 0 0, rfl, Sl.nil, bl_s3 hbf (by omega) _ _ _⟩

set_option maxHeartbeats 1600000 in
set_option maxRecDepth 100000 in
theorem refCharge11_yes (v : Value) (bs : List Int) (c d : Int) (i : Nat) (am : Int) (l : List Int) (c2 d2 e : Int) (he : Hid (askedE bs c d am [(i : Int) + 1] = 0)) (hs : Hid (addS bs c d i am = (l, c2, d2, e))) (hlen : bs.length ≤ 1000) (w : World) (hv : Sl .i64 w v bs) :
    Calls Try.prog 21 #[.agg #[v, .int .i64 c, .int .i64 d], .int .i64 ((i : Int) + 1), .int .i64 am] w (RetPos (l, c2, d2, e) w) := by
  have HV := Lib.hid hv
  obtain ⟨ao, cap, rfl, h1, ⟨h2, _⟩, h3⟩ := hv
  clear h3
  unfold maxLen at h2
  have HBLK : Hid (Blk ((w.alloc (.cells #[.slice ao bs.length cap, .int .i64 c, .int .i64 d] 25)).alloc (.cells #[.slice none 0 0, .int .i64 0, .int .i64 0] 25)) (w.heap.size + 1) 25 [.slice none 0 0, .int .i64 0, .int .i64 0]) := by
    have := heap_alloc_new (w.alloc (.cells #[.slice ao bs.length cap, .int .i64 c, .int .i64 d] 25)) (.cells #[.slice none 0 0, .int .i64 0, .int .i64 0] 25)
    simpa [Blk, Hid] using this
  have hB0 : Blk (w.alloc (.cells #[.slice ao bs.length cap, .int .i64 c, .int .i64 d] 25)) w.heap.size 25 [.slice ao bs.length cap, .int .i64 c, .int .i64 d] := heap_alloc_new w _
  have HB0 := Lib.hid (hB0.below (bl_al (Below.refl _ _) (.cells #[.slice none 0 0, .int .i64 0, .int .i64 0] 25)))
  have HW0 : Hid (Below w.heap.size w ((w.alloc (.cells #[.slice ao bs.length cap, .int .i64 c, .int .i64 d] 25)).alloc (.cells #[.slice none 0 0, .int .i64 0, .int .i64 0] 25))) := bl_al (bl_al (Below.refl _ _) _) _
  clear hB0
  obtain ⟨hr, hk1, hk2, ham1, ham2⟩ := asked_ok he.out
  have HR := Lib.hid (And.intro hr (And.intro ham1 ham2))
  have HL := Lib.hid (And.intro (show i < bs.length by omega) hlen)
  clear hr hk1 hk2 ham1 ham2
  go_enter Try.func21, Try.ntmps21
  go_wp2_with fail
  refine (refAsked11_any _ bs c d ((i : Int) + 1) am 0 he _ (HV.out.below HW0.out)).mono ?_
  rintro _ w1 ⟨rfl, hb1⟩
  have hB := HB0.out.below hb1
  have c0 := hB.cell 0
  have c1 := hB.cell 1
  have c2' := hB.cell 2
  simp only [List.getElem?_cons_zero, List.getElem?_cons_succ] at c0 c1 c2'
  have HR1 := Lib.hid (HBLK.out.below hb1)
  have HBF := Lib.hid (bl_tr HW0.out hb1)
  have HV1 := Lib.hid (HV.out.below (bl_tr HW0.out hb1))
  clear hB hb1
  go_wp2_with fail
  refine (refAdd11_any _ bs c d i am _ hs HL.out.1 HR.out.1 HR.out.2 HL.out.2 _ HV1.out).mono ?_
  rintro _ w2 ⟨u, rfl, ⟨hul, huf⟩, hb2⟩
  simp only at hul ⊢
  have HUL := Lib.hid hul
  obtain ⟨au, cu, rfl⟩ := hul.shape
  have hlt1 := HR1.out.lt
  have HNE : Hid (∀ b o m q, (Value.slice au l.length cu) = .slice (some ⟨b, o, none⟩) m q → 0 < m → b ≠ w.heap.size + 1) := fun b o m q e hm => by
    have := huf b o m q e hm
    omega
  have hbf := bl_tr HBF.out hb2
  have hR := HR1.out.below hb2
  have r0 := hR.cell 0
  have r1 := hR.cell 1
  have r2 := hR.cell 2
  simp only [List.getElem?_cons_zero, List.getElem?_cons_succ] at r0 r1 r2
  have f0 := hR.frozen 0
  have f1 := hR.frozen 1
  have f2 := hR.frozen 2
  have hlt := hR.lt
  clear hR
  clear hb2 hul huf c0 c1 c2'
  go_wp2
  refine bodyPost_ret (v := .tuple #[.agg #[.slice au l.length cu, .int .i64 c2, .int .i64 d2], .int .i64 e]) (by simp [results, Try.results21, go_sem, r0, r1, r2]) rfl ⟨.slice au l.length cu, rfl, ((HUL.out.setCell HNE.out _).setCell HNE.out _).setCell HNE.out _, bl_s3 hbf (by omega) _ _ _⟩

theorem chargeS_add {bs : List Int} {c d : Int} {i : Nat} {am : Int} (he : askedE bs c d am [(i : Int) + 1] = 0) : chargeS bs c d ((i : Int) + 1) am = addS bs c d i am := by
  unfold chargeS addS
  rw [if_neg (by simpa using he)]
  have e : ((i : Int) + 1 - 1).toNat = i := by omega
  rw [e]
theorem refCharge11_any (v : Value) (bs : List Int) (c d k am : Int) (s : List Int × Int × Int × Int) (hs : Hid (chargeS bs c d k am = s)) (hlen : bs.length ≤ 1000) (w : World) (hv : Sl .i64 w v bs) :
    Calls Try.prog 21 #[.agg #[v, .int .i64 c, .int .i64 d], .int .i64 k, .int .i64 am] w (RetPos s w) := by
  have hs := hs.out
  subst hs
  by_cases he : askedE bs c d am [k] = 0
  · obtain ⟨_, hk1, hk2, _, _⟩ := asked_ok he
    obtain ⟨i, rfl⟩ : ∃ i : Nat, k = (i : Int) + 1 := ⟨(k - 1).toNat, by omega⟩
    rw [chargeS_add he]
    exact refCharge11_yes v bs c d i am _ _ _ _ he rfl hlen w hv
  · unfold chargeS
    rw [if_pos (by simpa using he)]
    exact refCharge11_no v bs c d k am _ rfl (by simpa using he) w hv
end Go.Proofs.Ytbiiejolemcifaa
