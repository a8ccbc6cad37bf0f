/- lombardref11.Bear: interest, tranche by tranche, as the document says it. lombardref11.Bear where all is right: interest, tranche by tranche, as the document says it. What a gift goes into, one tranche ahead of the others: as the document reckons it. Plain lists. lombardref11.Give: a gift, as the document says it. -/
import Derived.Test.YtbiiejolemcifaaRef11G
import Derived.Deep.RegionLaw
import Derived.Deep.RegionHeld3
import Derived.Test.YtbiiejolemcifaaPoolGiveM
import Derived.Test.YtbiiejolemcifaaPayLaws
import Derived.Test.YtbiiejolemcifaaRefRank
import Derived.Test.YtbiiejolemcifaaRef11F
namespace Go.Proofs.Ytbiiejolemcifaa
open Go.RowKit

theorem keep4 {w w' : World} {a b c d : Addr} {x y z t : Value} (h1 : w.cell? ⟨a.block, a.off, none⟩ = some x) (h2 : w.cell? ⟨b.block, b.off, none⟩ = some y) (h3 : w.cell? ⟨c.block, c.off, none⟩ = some z) (h4 : w.cell? ⟨d.block, d.off, none⟩ = some t) (hb : Below w.heap.size w w') :
    w'.cell? ⟨a.block, a.off, none⟩ = some x ∧ w'.cell? ⟨b.block, b.off, none⟩ = some y ∧ w'.cell? ⟨c.block, c.off, none⟩ = some z ∧ w'.cell? ⟨d.block, d.off, none⟩ = some t :=
  ⟨(hb.cell (p := ⟨a.block, a.off, none⟩) (cell_block_lt h1)).trans h1, (hb.cell (p := ⟨b.block, b.off, none⟩) (cell_block_lt h2)).trans h2, (hb.cell (p := ⟨c.block, c.off, none⟩) (cell_block_lt h3)).trans h3, (hb.cell (p := ⟨d.block, d.off, none⟩) (cell_block_lt h4)).trans h4⟩
def bearOk (bs ns : List Int) (c d : Int) : Bool := rightP bs c d && ns.length == bs.length
theorem bearS_no {bs ns : List Int} {c d : Int} (h : (bearOk bs ns c d && !ns.any notMay) = false) : bearS bs c d ns = ([], 0, 0, 1) := by
  unfold bearS
  unfold bearOk at h
  cases hr : rightP bs c d with
  | false => rfl
  | true =>
    cases hl : (ns.length == bs.length) with
    | false => rfl
    | true =>
      cases ha : ns.any notMay with
      | true => rfl
      | false => rw [hr, hl, ha] at h; cases h
theorem bearS_yes {bs ns : List Int} {c d : Int} (h : (bearOk bs ns c d && !ns.any notMay) = true) : rightP bs c d = true ∧ ns.length = bs.length ∧ ns.any notMay = false ∧ bearS bs c d ns = if rightP (bearSt ns bs c bs.length).1 (bearSt ns bs c bs.length).2 d = true then ((bearSt ns bs c bs.length).1, (bearSt ns bs c bs.length).2, d, 0) else ([], 0, 0, 5) := by
  unfold bearOk at h
  simp only [Bool.and_eq_true, Bool.not_eq_true', beq_iff_eq] at h
  obtain ⟨⟨h1, h2⟩, h3⟩ := h
  refine ⟨h1, h2, h3, ?_⟩
  unfold bearS
  rw [h1, h3, show (ns.length == bs.length) = true by simp [h2]]
  rfl

set_option maxHeartbeats 1600000 in
set_option maxRecDepth 100000 in
theorem refBear11_no1 (v u : Value) (bs ns : List Int) (c d : Int) (HR : Hid (rightP bs c d = false)) (w : World) (hv : Sl .i64 w v bs) (hu : Sl .i64 w u ns) :
    Calls Try.prog 24 #[.agg #[v, .int .i64 c, .int .i64 d], u] w (RetPos ([], 0, 0, 1) w) := by
  have HV := Lib.hid hv
  have HU := Lib.hid hu
  obtain ⟨ao, cap, rfl, h1, ⟨h2, _⟩, h3⟩ := hv
  clear h3
  obtain ⟨ao', cap', rfl, h1', ⟨h2', _⟩, h3⟩ := hu
  clear h3
  unfold maxLen at h2 h2'
  have HBLK : Hid (Blk ((w.alloc (.cells #[.slice ao bs.length cap, .int .i64 c, .int .i64 d] 25)).alloc (.cells #[.slice none 0 0, .int .i64 0, .int .i64 0] 25)) (w.heap.size + 1) 25 [.slice none 0 0, .int .i64 0, .int .i64 0]) := by
    have := heap_alloc_new (w.alloc (.cells #[.slice ao bs.length cap, .int .i64 c, .int .i64 d] 25)) (.cells #[.slice none 0 0, .int .i64 0, .int .i64 0] 25)
    simpa [Blk, Hid] using this
  have hB0 : Blk (w.alloc (.cells #[.slice ao bs.length cap, .int .i64 c, .int .i64 d] 25)) w.heap.size 25 [.slice ao bs.length cap, .int .i64 c, .int .i64 d] := heap_alloc_new w _
  have HB0 := Lib.hid (hB0.below (bl_al (Below.refl _ _) (.cells #[.slice none 0 0, .int .i64 0, .int .i64 0] 25)))
  have HW0 : Hid (Below w.heap.size w ((w.alloc (.cells #[.slice ao bs.length cap, .int .i64 c, .int .i64 d] 25)).alloc (.cells #[.slice none 0 0, .int .i64 0, .int .i64 0] 25))) := bl_al (bl_al (Below.refl _ _) _) _
  clear hB0
  go_enter Try.func24, Try.ntmps24
  go_wp2_with fail
  refine (refRight11_any _ bs c d false HR _ (HV.out.below HW0.out)).mono ?_
  rintro _ w1 ⟨rfl, hb1⟩
  have HB1 := Lib.hid (HB0.out.below hb1)
  have HR1 := Lib.hid (HBLK.out.below hb1)
  have HBF := Lib.hid (bl_tr HW0.out hb1)
  clear hb1
  go_wp2_with fail
  go_loopg [6, 7] ns.length (fun g s i wr => ∃ k : Nat, k + g = ns.length ∧ i = .int .i64 k ∧ s = .bool false ∧ w1 = wr)
  case atStart => exact ⟨0, by omega, rfl, rfl, rfl⟩
  case round =>
    obtain ⟨k, hkg, rfl, rfl, rfl⟩ := hrel
    cases gk with
    | succ g =>
      have hlt : (k : Int) < (ns.length : Int) := by omega
      go_wp2_with fail
      go_roundg g
      case measure => omega
      case rel => exact ⟨k + 1, by omega, by go_num, rfl, rfl⟩
    | zero =>
      have hlt : ¬ ((k : Int) < (ns.length : Int)) := by omega
      have hR := HR1.out
      have r0 := hR.cell 0
      have r1 := hR.cell 1
      have r2 := hR.cell 2
      simp only [List.getElem?_cons_zero, List.getElem?_cons_succ] at r0 r1 r2
      have f0 := hR.frozen 0
      have f1 := hR.frozen 1
      have f2 := hR.frozen 2
      have hlt4 := hR.lt
      clear hR
      go_wp2
      refine bodyPost_ret (v := .tuple #[.agg #[.slice none 0 0, .int .i64 0, .int .i64 0], .int .i64 1]) (by simp [results, Try.results24, go_sem, r0, r1, r2]) rfl ⟨.slice none 0 0, rfl, Sl.nil, bl_s3 HBF.out (by omega) _ _ _⟩

set_option maxHeartbeats 1600000 in
set_option maxRecDepth 100000 in
theorem refBear11_no2 (v u : Value) (bs ns : List Int) (c d : Int) (HR : Hid (rightP bs c d = true)) (hl : ¬ ns.length = bs.length) (w : World) (hv : Sl .i64 w v bs) (hu : Sl .i64 w u ns) :
    Calls Try.prog 24 #[.agg #[v, .int .i64 c, .int .i64 d], u] w (RetPos ([], 0, 0, 1) w) := by
  have HV := Lib.hid hv
  have HU := Lib.hid hu
  obtain ⟨ao, cap, rfl, h1, ⟨h2, _⟩, h3⟩ := hv
  clear h3
  obtain ⟨ao', cap', rfl, h1', ⟨h2', _⟩, h3⟩ := hu
  clear h3
  unfold maxLen at h2 h2'
  have HBLK : Hid (Blk ((w.alloc (.cells #[.slice ao bs.length cap, .int .i64 c, .int .i64 d] 25)).alloc (.cells #[.slice none 0 0, .int .i64 0, .int .i64 0] 25)) (w.heap.size + 1) 25 [.slice none 0 0, .int .i64 0, .int .i64 0]) := by
    have := heap_alloc_new (w.alloc (.cells #[.slice ao bs.length cap, .int .i64 c, .int .i64 d] 25)) (.cells #[.slice none 0 0, .int .i64 0, .int .i64 0] 25)
    simpa [Blk, Hid] using this
  have hB0 : Blk (w.alloc (.cells #[.slice ao bs.length cap, .int .i64 c, .int .i64 d] 25)) w.heap.size 25 [.slice ao bs.length cap, .int .i64 c, .int .i64 d] := heap_alloc_new w _
  have HB0 := Lib.hid (hB0.below (bl_al (Below.refl _ _) (.cells #[.slice none 0 0, .int .i64 0, .int .i64 0] 25)))
  have HW0 : Hid (Below w.heap.size w ((w.alloc (.cells #[.slice ao bs.length cap, .int .i64 c, .int .i64 d] 25)).alloc (.cells #[.slice none 0 0, .int .i64 0, .int .i64 0] 25))) := bl_al (bl_al (Below.refl _ _) _) _
  clear hB0
  have d1 : ((ns.length : Int) == (bs.length : Int)) = false := by simp; omega
  go_enter Try.func24, Try.ntmps24
  go_wp2_with fail
  refine (refRight11_any _ bs c d true HR _ (HV.out.below HW0.out)).mono ?_
  rintro _ w1 ⟨rfl, hb1⟩
  have HB1 := Lib.hid (HB0.out.below hb1)
  have HR1 := Lib.hid (HBLK.out.below hb1)
  have HBF := Lib.hid (bl_tr HW0.out hb1)
  clear hb1
  have hB := HB1.out
  have c0 := hB.cell 0
  have c1 := hB.cell 1
  have c2 := hB.cell 2
  simp only [List.getElem?_cons_zero, List.getElem?_cons_succ] at c0 c1 c2
  clear hB
  go_wp2_with fail
  go_loopg [6, 7] ns.length (fun g s i wr => ∃ k : Nat, k + g = ns.length ∧ i = .int .i64 k ∧ s = .bool false ∧ w1 = wr)
  case atStart => exact ⟨0, by omega, rfl, rfl, rfl⟩
  case round =>
    obtain ⟨k, hkg, rfl, rfl, rfl⟩ := hrel
    cases gk with
    | succ g =>
      have hlt : (k : Int) < (ns.length : Int) := by omega
      go_wp2_with fail
      go_roundg g
      case measure => omega
      case rel => exact ⟨k + 1, by omega, by go_num, rfl, rfl⟩
    | zero =>
      have hlt : ¬ ((k : Int) < (ns.length : Int)) := by omega
      have hR := HR1.out
      have r0 := hR.cell 0
      have r1 := hR.cell 1
      have r2 := hR.cell 2
      simp only [List.getElem?_cons_zero, List.getElem?_cons_succ] at r0 r1 r2
      have f0 := hR.frozen 0
      have f1 := hR.frozen 1
      have f2 := hR.frozen 2
      have hlt4 := hR.lt
      clear hR
      go_wp2
      refine bodyPost_ret (v := .tuple #[.agg #[.slice none 0 0, .int .i64 0, .int .i64 0], .int .i64 1]) (by simp [results, Try.results24, go_sem, r0, r1, r2]) rfl ⟨.slice none 0 0, rfl, Sl.nil, bl_s3 HBF.out (by omega) _ _ _⟩

theorem any_take {ns : List Int} (k : Nat) (h : ∃ j, j < k ∧ notMay (ns.getD j 0) = true) (hk : k ≤ ns.length) : ns.any notMay = true := by
  obtain ⟨j, hj, hb⟩ := h
  rw [List.any_eq_true]
  exact ⟨ns[j]'(by omega), List.getElem_mem _, by simpa [List.getD, show j < ns.length by omega] using hb⟩
theorem any_none {ns : List Int} (h : ∀ j, j < ns.length → notMay (ns.getD j 0) = false) : ns.any notMay = false := by
  rw [List.any_eq_false]
  intro x hx
  obtain ⟨j, hj, rfl⟩ := List.getElem_of_mem hx
  have := h j hj
  simpa [List.getD, hj] using this
end Go.Proofs.Ytbiiejolemcifaa

namespace Go.Proofs.Ytbiiejolemcifaa
open Go.RowKit

theorem keep4b {w w' : World} {g b o : Nat} {x y z t : Value} (hb : Below w.heap.size w w') (h : w.cell? ⟨g, 0, none⟩ = some x ∧ w.cell? ⟨g, 1, none⟩ = some y ∧ w.cell? ⟨g, 2, none⟩ = some z ∧ w.cell? ⟨b, o, none⟩ = some t) :
    w'.cell? ⟨g, 0, none⟩ = some x ∧ w'.cell? ⟨g, 1, none⟩ = some y ∧ w'.cell? ⟨g, 2, none⟩ = some z ∧ w'.cell? ⟨b, o, none⟩ = some t :=
  ⟨(hb.cell (p := ⟨g, 0, none⟩) (cell_block_lt h.1)).trans h.1, (hb.cell (p := ⟨g, 1, none⟩) (cell_block_lt h.2.1)).trans h.2.1, (hb.cell (p := ⟨g, 2, none⟩) (cell_block_lt h.2.2.1)).trans h.2.2.1, (hb.cell (p := ⟨b, o, none⟩) (cell_block_lt h.2.2.2)).trans h.2.2.2⟩

set_option maxHeartbeats 3200000 in
set_option maxRecDepth 100000 in
theorem refBear11_yes (v u : Value) (bs ns : List Int) (c d : Int) (HR : Hid (rightP bs c d = true)) (hl : ns.length = bs.length) (s : List Int × Int × Int × Int) (hs : Hid (bearS bs c d ns = s)) (hlen : bs.length ≤ 1000) (w : World) (hv : Sl .i64 w v bs) (hu : Sl .i64 w u ns) :
    Calls Try.prog 24 #[.agg #[v, .int .i64 c, .int .i64 d], u] w (RetPos s w) := by
  have HV := Lib.hid hv
  have HU := Lib.hid hu
  obtain ⟨ao, cap, rfl, h1, ⟨h2, _⟩, h3⟩ := hv
  clear h3
  obtain ⟨ao', cap', rfl, h1', ⟨h2', _⟩, h3⟩ := hu
  clear h3
  unfold maxLen at h2 h2'
  have HBLK : Hid (Blk ((w.alloc (.cells #[.slice ao bs.length cap, .int .i64 c, .int .i64 d] 25)).alloc (.cells #[.slice none 0 0, .int .i64 0, .int .i64 0] 25)) (w.heap.size + 1) 25 [.slice none 0 0, .int .i64 0, .int .i64 0]) := by
    have := heap_alloc_new (w.alloc (.cells #[.slice ao bs.length cap, .int .i64 c, .int .i64 d] 25)) (.cells #[.slice none 0 0, .int .i64 0, .int .i64 0] 25)
    simpa [Blk, Hid] using this
  have hB0 : Blk (w.alloc (.cells #[.slice ao bs.length cap, .int .i64 c, .int .i64 d] 25)) w.heap.size 25 [.slice ao bs.length cap, .int .i64 c, .int .i64 d] := heap_alloc_new w _
  have HB0 := Lib.hid (hB0.below (bl_al (Below.refl _ _) (.cells #[.slice none 0 0, .int .i64 0, .int .i64 0] 25)))
  have HW0 : Hid (Below w.heap.size w ((w.alloc (.cells #[.slice ao bs.length cap, .int .i64 c, .int .i64 d] 25)).alloc (.cells #[.slice none 0 0, .int .i64 0, .int .i64 0] 25))) := bl_al (bl_al (Below.refl _ _) _) _
  clear hB0
  have d1 : ((ns.length : Int) == (bs.length : Int)) = true := by simp [hl]
  have HL := Lib.hid (And.intro hl hlen)
  clear hl hlen
  go_enter Try.func24, Try.ntmps24
  go_wp2_with fail
  refine (refRight11_any _ bs c d true HR _ (HV.out.below HW0.out)).mono ?_
  rintro _ w1 ⟨rfl, hb1⟩
  have HB1 := Lib.hid (HB0.out.below hb1)
  have HR1 := Lib.hid (HBLK.out.below hb1)
  have HBF := Lib.hid (bl_tr HW0.out hb1)
  clear hb1
  have hB := HB1.out
  have c0 := hB.cell 0
  have c1 := hB.cell 1
  have c2 := hB.cell 2
  simp only [List.getElem?_cons_zero, List.getElem?_cons_succ] at c0 c1 c2
  clear hB
  go_wp2_with fail
  go_loopg [6, 7] ns.length (fun g s i wr => ∃ k : Nat, k + g = ns.length ∧ i = .int .i64 k ∧ ((s = .bool true ∧ Hid (∀ j, j < k → notMay (ns.getD j 0) = false)) ∨ (s = .bool false ∧ Hid (ns.any notMay = true))) ∧ w1 = wr)
  case atStart => exact ⟨0, by omega, rfl, .inl ⟨rfl, fun j hj => absurd hj (by omega)⟩, rfl⟩
  case round =>
    obtain ⟨k, hkg, rfl, hss, rfl⟩ := hrel
    rcases hss with ⟨rfl, HK⟩ | ⟨rfl, HK⟩
    · cases gk with
      | succ g =>
        have hlt : (k : Int) < (ns.length : Int) := by omega
        obtain ⟨b', o', x, rfl, hcell, HX⟩ := (HU.out.below HBF.out).get (i := k) (by omega)
        cases hm : may0 x with
        | true =>
          have HM := Lib.hid hm
          have HK2 : Hid (∀ j, j < k + 1 → notMay (ns.getD j 0) = false) := fun j hj => by
            by_cases e : j = k
            · subst e; rw [HX.out]; simp [notMay, hm]
            · exact HK.out j (by omega)
          clear hm
          go_wp2_with fail
          refine (refMay11_is HM.out _).mono ?_
          rintro _ w2 ⟨rfl, rfl⟩
          go_wp2_with fail
          go_roundg g
          case measure => omega
          case rel => exact ⟨k + 1, by omega, by go_num, .inl ⟨rfl, HK2⟩, rfl⟩
        | false =>
          have HM := Lib.hid hm
          have HK2 : Hid (ns.any notMay = true) := any_take (k + 1) ⟨k, by omega, by rw [HX.out]; simp [notMay, hm]⟩ (by omega)
          clear hm
          go_wp2_with fail
          refine (refMay11_is HM.out _).mono ?_
          rintro _ w2 ⟨rfl, rfl⟩
          go_wp2_with fail
          go_roundg g
          case measure => omega
          case rel => exact ⟨k + 1, by omega, by go_num, .inr ⟨rfl, HK2⟩, rfl⟩
      | zero =>
        have hlt : ¬ ((k : Int) < (ns.length : Int)) := by omega
        have hkl : k = ns.length := by omega
        have HANY : Hid (ns.any notMay = false) := any_none (fun j hj => HK.out j (by omega))
        have hl8 := (rightP_due HR.out).2
        have HL8 := Lib.hid hl8
        have HNO : Hid (∀ k, k ≤ bs.length → rightP (bearSt ns bs c k).1 (bearSt ns bs c k).2 d = false → s = ([], 0, 0, 5)) := by
          intro k hk hf
          have hy := (bearS_yes (bs := bs) (ns := ns) (c := c) (d := d) (by rw [HANY.out]; unfold bearOk; rw [HR.out, show (ns.length == bs.length) = true by simp [HL.out.1]]; rfl)).2.2.2
          rw [← hs.out, hy, if_neg]
          intro hn
          have := bearSt_right HR.out HANY.out hn k hk
          rw [hf] at this
          cases this
        have HYES : Hid (rightP (bearSt ns bs c bs.length).1 (bearSt ns bs c bs.length).2 d = true → s = ((bearSt ns bs c bs.length).1, (bearSt ns bs c bs.length).2, d, 0)) := by
          intro hn
          have hy := (bearS_yes (bs := bs) (ns := ns) (c := c) (d := d) (by rw [HANY.out]; unfold bearOk; rw [HR.out, show (ns.length == bs.length) = true by simp [HL.out.1]]; rfl)).2.2.2
          rw [← hs.out, hy, if_pos hn]
        have HNE0 : Hid (∀ b o m q, (Value.slice ao bs.length cap) = .slice (some ⟨b, o, none⟩) m q → 0 < m → b ≠ w.heap.size ∧ b ≠ w.heap.size + 1) := by
          intro b o m q e hm
          cases e
          obtain ⟨b', o', e1, hc⟩ := HV.out.at (i := 0) hm
          cases e1
          have := cell_block_lt hc
          omega
        have HV1 := Lib.hid (HV.out.below HBF.out)
        clear hkl HK hl8
        go_wp2_with fail
        go_loopg [8] bs.length (fun g i wr => ∃ (k : Nat) (uv : Value), k + g = bs.length ∧ i = .int .i64 k ∧ Hid (Blk wr w.heap.size 25 [uv, .int .i64 (bearSt ns bs c k).2, .int .i64 d]) ∧ Hid (Sl .i64 wr uv (bearSt ns bs c k).1) ∧ Hid (∀ b o m q, uv = .slice (some ⟨b, o, none⟩) m q → 0 < m → b ≠ w.heap.size ∧ b ≠ w.heap.size + 1) ∧ Hid (rightP (bearSt ns bs c k).1 (bearSt ns bs c k).2 d = true) ∧ Hid (Blk wr (w.heap.size + 1) 25 [.slice none 0 0, .int .i64 0, .int .i64 0]) ∧ Hid (Below w.heap.size w wr))
        case atStart => exact ⟨0, .slice ao bs.length cap, by omega, rfl, HB1.out, HV1.out, HNE0.out, HR.out, HR1.out, HBF.out⟩
        case round =>
          obtain ⟨k2, uv, hkg2, rfl, HPb, HSv, HNE, HRk, HRb, HBw⟩ := hrel
          clear c0 c1 c2
          have hll := bearSt_len ns bs c k2
          obtain ⟨au, cu, hshape⟩ := HSv.out.shape
          subst hshape
          cases gk with
          | succ g =>
            have hlt2 : (k2 : Int) < (ns.length : Int) := by have := HL.out.1; omega
            obtain ⟨b', o', x, rfl, hcell, HX⟩ := (HU.out.below HBw.out).get (i := k2) (by have := HL.out.1; omega)
            have hx := any_may HANY.out k2
            rw [HX.out] at hx
            have hadd := addS_bear (ns := ns) (bs := bs) (c := c) (d := d) k2
            rw [HX.out] at hadd
            have hB := HPb.out
            have c0 := hB.cell 0
            have c1 := hB.cell 1
            have c2 := hB.cell 2
            simp only [List.getElem?_cons_zero, List.getElem?_cons_succ] at c0 c1 c2
            have HRk2 := HRk.out
            have hlb := hB.lt
            have hlR := HRb.out.lt
            obtain ⟨L, C, hLC⟩ : ∃ L C, bearSt ns bs c k2 = (L, C) := ⟨_, _, rfl⟩
            have HSv2 := HSv.out
            rw [hLC] at hll hadd c0 c1 HRk2 HSv2
            simp only at hll hadd c0 c1 HRk2 HSv2
            rw [hLC] at *
            simp only at *
            have HLk : Hid (k2 < L.length) := by show _ < _; omega
            have HL1000 : Hid (L.length ≤ 1000) := by show _ ≤ _; have := HL.out.2; omega
            obtain ⟨L', C', D', E', hq⟩ : ∃ L' C' D' E', addS L C d k2 x = (L', C', D', E') := ⟨_, _, _, _, rfl⟩
            have HCASE : Hid ((5 = E' ∧ ([], 0, 0, 5) = s) ∨ (0 = E' ∧ (bearSt ns bs c (k2 + 1)).1 = L' ∧ (bearSt ns bs c (k2 + 1)).2 = C' ∧ d = D' ∧ rightP (bearSt ns bs c (k2 + 1)).1 (bearSt ns bs c (k2 + 1)).2 d = true)) := by
              rw [hq] at hadd
              cases hr : rightP (bearSt ns bs c (k2 + 1)).1 (bearSt ns bs c (k2 + 1)).2 d with
              | false =>
                rw [if_neg (by rw [hr]; simp)] at hadd
                simp only [Prod.mk.injEq] at hadd
                exact .inl ⟨hadd.2.2.2.symm, (HNO.out (k2 + 1) (by omega) hr).symm⟩
              | true =>
                rw [if_pos hr] at hadd
                simp only [Prod.mk.injEq] at hadd
                exact .inr ⟨hadd.2.2.2.symm, hadd.1.symm, hadd.2.1.symm, hadd.2.2.1.symm, rfl⟩
            have HQ := Lib.hid hq
            have HSv3 := Lib.hid HSv2
            have HLL3 := Lib.hid hll
            have HPb2 := Lib.hid hB
            have hws : IntKind.i64.wrap ((k2 : Int) + 1) = (k2 : Int) + 1 := IntWalk.i64_in _ ⟨by omega, by have := HL.out.2; omega⟩
            have HH := Lib.hid (And.intro HRk2 hx)
            clear HSv2 hll hLC hlt hkg hadd hx HRk2 hq hB HNE HRk HSv
            go_wp2_with fail
            have hbl := cell_block_lt hcell
            have hk4 : wr.cell? ⟨w.heap.size, 0, none⟩ = some (.slice au L.length cu) ∧ wr.cell? ⟨w.heap.size, 1, none⟩ = some (.int .i64 C) ∧ wr.cell? ⟨w.heap.size, 2, none⟩ = some (.int .i64 d) ∧ wr.cell? ⟨b', o' + k2, none⟩ = some (.int .i64 x) := ⟨c0, c1, c2, hcell⟩
            go_region_held3 (fun w' => w'.cell? ⟨w.heap.size, 0, none⟩ = some (.slice au L.length cu) ∧ w'.cell? ⟨w.heap.size, 1, none⟩ = some (.int .i64 C) ∧ w'.cell? ⟨w.heap.size, 2, none⟩ = some (.int .i64 d) ∧ w'.cell? ⟨b', o' + k2, none⟩ = some (.int .i64 x)) (first | assumption | (refine keep4b ?_ hk4; first | with_reducible exact HBR.out | with_reducible exact bl_al HBR.out _ | with_reducible exact bl_s3 HBR.out (Nat.le_refl _) _ _ _ | with_reducible exact bl_s3 (bl_al HBR.out _) HBR.out.size _ _ _ | with_reducible exact bl_dr (bl_al (Below.refl _ _) _) | with_reducible exact bl_al (Below.refl _ _) _)) (first | (go_at_call 49; refine (refAdd11_any _ L C d k2 x _ HQ HLk.out HH.out.1 HH.out.2 HL1000.out _ (HSv3.out.below (by repeat (first | with_reducible exact Below.refl _ _ | (with_reducible refine bl_sc ?_ ?hge; case hge => (first | exact Nat.le_refl _ | omega)) | with_reducible refine bl_al ?_ _ | with_reducible refine bl_dr ?_ | with_reducible refine bl_dN ?_ _ | (refine bl_tr ?_ (by assumption)) | (refine bl_gr ?_ (by assumption) (by first | exact Nat.le_refl _ | omega)) | exact Below.refl _ _ | refine bl_al ?_ _ | refine bl_dr ?_ | refine bl_dN ?_ _)))).mono ?_; rintro _ w2 ⟨u2, rfl, ⟨hul, huf⟩, hb2⟩; obtain ⟨a2, q2, rfl⟩ := hul.shape; have HUL := Lib.hid hul; have HUF := Lib.hid huf; have HBR : Hid (Below wr.heap.size wr w2) := (by first | exact hb2 | exact bl_tr (bl_dr (Below.refl _ _)) hb2 | exact bl_tr (bl_dr (bl_al (Below.refl _ _) _)) hb2 | exact bl_tr (bl_al (Below.refl _ _) _) hb2); try (have hk := (show Blk (wr.alloc (.cells #[.slice none 0 0, .int .i64 0, .int .i64 0] 25)).drew wr.heap.size 25 [.slice none 0 0, .int .i64 0, .int .i64 0] from heap_alloc_new wr _).below hb2; have k0 := hk.cell 0; have k1 := hk.cell 1; have k2' := hk.cell 2; simp only [List.getElem?_cons_zero, List.getElem?_cons_succ] at k0 k1 k2'; have kf0 := hk.frozen 0; have kf1 := hk.frozen 1; have kf2 := hk.frozen 2; have HKB := Lib.hid hk; clear hk); clear hul huf hb2))
            · obtain ⟨W, hW, GN, GB, GS, GF⟩ : ∃ W, w2.alloc (.cells #[.slice a2 L'.length q2, .int .i64 C', .int .i64 D'] 25) = W ∧ Hid (Blk W w2.heap.size 25 [.slice a2 L'.length q2, .int .i64 C', .int .i64 D']) ∧ Hid (Below wr.heap.size wr W) ∧ Hid (Sl .i64 W (.slice a2 L'.length q2) L') ∧ Hid (∀ b o m q, Value.slice a2 L'.length q2 = .slice (some ⟨b, o, none⟩) m q → 0 < m → b ≠ w.heap.size ∧ b ≠ w.heap.size + 1) := by
                refine ⟨_, rfl, heap_alloc_new w2 _, bl_al HBR.out _, (HUL.out.below (bl_al (Below.refl _ _) _)), ?_⟩
                intro b o m q e hm
                have := HUF.out b o m q e hm
                have e1 : wr.heap.size = wr.drew.heap.size := rfl
                simp at this
                omega
              with_reducible rw [hW]
              have hP := HPb2.out.below GB.out
              have hR := HRb.out.below GB.out
              have HBW := Lib.hid (bl_tr HBw.out GB.out)
              have HPw := Lib.hid hP
              have HRw := Lib.hid hR
              clear hW HBR HUF HUL hk4 c0 c1 c2 hcell
              rcases HCASE.out with ⟨rfl, rfl⟩ | ⟨rfl, rfl, rfl, rfl, hright⟩
              · have r0 := hR.cell 0
                have r1 := hR.cell 1
                have r2 := hR.cell 2
                simp only [List.getElem?_cons_zero, List.getElem?_cons_succ] at r0 r1 r2
                have f0 := hR.frozen 0
                have f1 := hR.frozen 1
                have f2 := hR.frozen 2
                have hlt4 := hR.lt
                clear hR hP
                go_wp2
                refine bodyPost_ret (v := .tuple #[.agg #[.slice none 0 0, .int .i64 0, .int .i64 0], .int .i64 5]) (by simp [results, Try.results24, go_sem, r0, r1, r2]) rfl ⟨.slice none 0 0, rfl, Sl.nil, bl_s3 HBW.out (by omega) _ _ _⟩
              · have hN := GN.out
                have n0 := hN.cell 0
                have n1 := hN.cell 1
                have n2 := hN.cell 2
                have p0 := hP.cell 0
                have p1 := hP.cell 1
                have p2 := hP.cell 2
                simp only [List.getElem?_cons_zero, List.getElem?_cons_succ] at n0 n1 n2 p0 p1 p2
                have f0 := hP.frozen 0
                have f1 := hP.frozen 1
                have f2 := hP.frozen 2
                have HRIGHT := Lib.hid hright
                clear hR hN hP hright
                go_wp2_with fail
                go_roundg g
                case measure => omega
                case rel => exact ⟨k2 + 1, _, by omega, by go_num, ((HPw.out.set 0 _).set 1 _).set 2 _, ((GS.out.setCell (fun b o n c e h => (GF.out b o n c e h).1) _).setCell (fun b o n c e h => (GF.out b o n c e h).1) _).setCell (fun b o n c e h => (GF.out b o n c e h).1) _, GF.out, HRIGHT.out, ((HRw.out.setOther (by omega) 0 _).setOther (by omega) 1 _).setOther (by omega) 2 _, bl_s3 HBW.out (Nat.le_refl _) _ _ _⟩
            · obtain ⟨W, hW, GN, GB, GS, GF⟩ : ∃ W, ((w2.setCell ⟨wr.heap.size, 0, none⟩ (.slice a2 L'.length q2)).setCell ⟨wr.heap.size, 1, none⟩ (.int .i64 C')).setCell ⟨wr.heap.size, 2, none⟩ (.int .i64 D') = W ∧ Hid (Blk W wr.heap.size 25 [.slice a2 L'.length q2, .int .i64 C', .int .i64 D']) ∧ Hid (Below wr.heap.size wr W) ∧ Hid (Sl .i64 W (.slice a2 L'.length q2) L') ∧ Hid (∀ b o m q, Value.slice a2 L'.length q2 = .slice (some ⟨b, o, none⟩) m q → 0 < m → b ≠ w.heap.size ∧ b ≠ w.heap.size + 1) := by
                refine ⟨_, rfl, ((HKB.out.set 0 _).set 1 _).set 2 _, bl_s3 HBR.out (Nat.le_refl _) _ _ _, (((HUL.out.setCell (fun b o n c e h => by have := HUF.out b o n c e h; simp at this; omega) _).setCell (fun b o n c e h => by have := HUF.out b o n c e h; simp at this; omega) _).setCell (fun b o n c e h => by have := HUF.out b o n c e h; simp at this; omega) _), ?_⟩
                intro b o m q e hm
                have := HUF.out b o m q e hm
                have e1 : wr.heap.size = wr.drew.heap.size := rfl
                simp at this
                omega
              with_reducible rw [hW]
              have hP := HPb2.out.below GB.out
              have hR := HRb.out.below GB.out
              have HBW := Lib.hid (bl_tr HBw.out GB.out)
              have HPw := Lib.hid hP
              have HRw := Lib.hid hR
              clear hW HBR HUF HUL hk4 c0 c1 c2 hcell
              rcases HCASE.out with ⟨rfl, rfl⟩ | ⟨rfl, rfl, rfl, rfl, hright⟩
              · have r0 := hR.cell 0
                have r1 := hR.cell 1
                have r2 := hR.cell 2
                simp only [List.getElem?_cons_zero, List.getElem?_cons_succ] at r0 r1 r2
                have f0 := hR.frozen 0
                have f1 := hR.frozen 1
                have f2 := hR.frozen 2
                have hlt4 := hR.lt
                clear hR hP
                go_wp2
                refine bodyPost_ret (v := .tuple #[.agg #[.slice none 0 0, .int .i64 0, .int .i64 0], .int .i64 5]) (by simp [results, Try.results24, go_sem, r0, r1, r2]) rfl ⟨.slice none 0 0, rfl, Sl.nil, bl_s3 HBW.out (by omega) _ _ _⟩
              · have hN := GN.out
                have n0 := hN.cell 0
                have n1 := hN.cell 1
                have n2 := hN.cell 2
                have p0 := hP.cell 0
                have p1 := hP.cell 1
                have p2 := hP.cell 2
                simp only [List.getElem?_cons_zero, List.getElem?_cons_succ] at n0 n1 n2 p0 p1 p2
                have f0 := hP.frozen 0
                have f1 := hP.frozen 1
                have f2 := hP.frozen 2
                have HRIGHT := Lib.hid hright
                clear hR hN hP hright
                go_wp2_with fail
                go_roundg g
                case measure => omega
                case rel => exact ⟨k2 + 1, _, by omega, by go_num, ((HPw.out.set 0 _).set 1 _).set 2 _, ((GS.out.setCell (fun b o n c e h => (GF.out b o n c e h).1) _).setCell (fun b o n c e h => (GF.out b o n c e h).1) _).setCell (fun b o n c e h => (GF.out b o n c e h).1) _, GF.out, HRIGHT.out, ((HRw.out.setOther (by omega) 0 _).setOther (by omega) 1 _).setOther (by omega) 2 _, bl_s3 HBW.out (Nat.le_refl _) _ _ _⟩
          | zero =>
            have hk2 : k2 = bs.length := by omega
            subst hk2
            have hlt2 : ¬ ((bs.length : Int) < (ns.length : Int)) := by have := HL.out.1; omega
            have hB := HPb.out
            have c0 := hB.cell 0
            have c1 := hB.cell 1
            have c2 := hB.cell 2
            simp only [List.getElem?_cons_zero, List.getElem?_cons_succ] at c0 c1 c2
            have HS := Lib.hid (HYES.out HRk.out)
            obtain ⟨L, C, hLC⟩ : ∃ L C, bearSt ns bs c bs.length = (L, C) := ⟨_, _, rfl⟩
            have hLC0 := hLC
            rw [hLC] at hll c0 c1 HS HSv
            simp only at hll c0 c1 HS HSv
            have hL8 : L.length ≤ 1000 := by have := HL.out.2; have e : (bearSt ns bs c bs.length).1.length = bs.length := bearSt_len ns bs c bs.length; rw [hLC0] at e; simp only at e; omega
            have HSV := HSv
            clear hB hLC hLC0 hll HRk HYES HNO hlt hkg hkg2
            go_wp2_with fail
            refine (refCopy11_any _ L C d hL8 _ HSV.out).mono ?_
            rintro _ w3 ⟨u3, rfl, hown, hb3⟩
            have hR := HRb.out.below hb3
            have r0 := hR.cell 0
            have r1 := hR.cell 1
            have r2 := hR.cell 2
            simp only [List.getElem?_cons_zero, List.getElem?_cons_succ] at r0 r1 r2
            have f0 := hR.frozen 0
            have f1 := hR.frozen 1
            have f2 := hR.frozen 2
            have hlt4 := hR.lt
            have hz3 := hb3.size
            have HBW := Lib.hid (bl_tr HBw.out hb3)
            have hsl := Sl.of_own hown rfl
            obtain ⟨a3, q3, rfl⟩ := hsl.shape
            have HOWN := Lib.hid hown
            have HSL := Lib.hid hsl
            clear hR hb3 hown hsl
            go_wp2
            refine bodyPost_ret (v := .tuple #[.agg #[.slice a3 L.length q3, .int .i64 C, .int .i64 d], .int .i64 0]) (by simp [results, Try.results24, go_sem, r0, r1, r2]) rfl ?_
            rw [HS.out]
            exact ⟨_, rfl, Sl.of_own (own_setElder (own_setElder (own_setElder HOWN.out (by have := HRb.out.lt; omega)) (by have := HRb.out.lt; omega)) (by have := HRb.out.lt; omega)) rfl, bl_s3 HBW.out (by omega) _ _ _⟩
    · obtain rfl : ([], 0, 0, 1) = s := by
        rw [← hs.out, bearS_no]
        rw [HK.out]
        simp
      cases gk with
      | succ g =>
        have hlt : (k : Int) < (ns.length : Int) := by omega
        go_wp2_with fail
        go_roundg g
        case measure => omega
        case rel => exact ⟨k + 1, by omega, by go_num, .inr ⟨rfl, HK⟩, rfl⟩
      | zero =>
        have hlt : ¬ ((k : Int) < (ns.length : Int)) := by omega
        clear c0 c1 c2
        have hR := HR1.out
        have r0 := hR.cell 0
        have r1 := hR.cell 1
        have r2 := hR.cell 2
        simp only [List.getElem?_cons_zero, List.getElem?_cons_succ] at r0 r1 r2
        have f0 := hR.frozen 0
        have f1 := hR.frozen 1
        have f2 := hR.frozen 2
        have hlt4 := hR.lt
        clear hR
        go_wp2
        refine bodyPost_ret (v := .tuple #[.agg #[.slice none 0 0, .int .i64 0, .int .i64 0], .int .i64 1]) (by simp [results, Try.results24, go_sem, r0, r1, r2]) rfl ⟨.slice none 0 0, rfl, Sl.nil, bl_s3 HBF.out (by omega) _ _ _⟩
theorem refBear11_any (v u : Value) (bs ns : List Int) (c d : Int) (s : List Int × Int × Int × Int) (hs : Hid (bearS bs c d ns = s)) (hlen : bs.length ≤ 1000) (w : World) (hv : Sl .i64 w v bs) (hu : Sl .i64 w u ns) :
    Calls Try.prog 24 #[.agg #[v, .int .i64 c, .int .i64 d], u] w (RetPos s w) := by
  cases hr : rightP bs c d with
  | false =>
    obtain rfl : ([], 0, 0, 1) = s := by rw [← hs.out, bearS_no]; unfold bearOk; rw [hr]; rfl
    exact refBear11_no1 v u bs ns c d hr w hv hu
  | true =>
    by_cases hl : ns.length = bs.length
    · exact refBear11_yes v u bs ns c d hr hl s hs hlen w hv hu
    · obtain rfl : ([], 0, 0, 1) = s := by
        rw [← hs.out, bearS_no]; unfold bearOk; rw [hr, show (ns.length == bs.length) = false by simp [hl]]; rfl
      exact refBear11_no2 v u bs ns c d hr hl w hv hu
end Go.Proofs.Ytbiiejolemcifaa

namespace Go.Proofs.Ytbiiejolemcifaa
open Go.RowKit

theorem fill_app (bal ks : List Int) (y a : Int) (i : Nat) (hi : i ≤ ks.length) : fill bal (ks ++ [y]) a i = fill bal ks a i := by
  induction i with
  | zero => rfl
  | succ i ih =>
    have e : (ks ++ [y]).getD i 0 = ks.getD i 0 := by simp [List.getD, List.getElem?_append_left (show i < ks.length by omega)]
    simp only [fill, ih (by omega), e]
theorem filled_snoc (bal ks : List Int) (y a : Int) : filled bal (ks ++ [y]) a = ((filled bal ks a).1.set (y - 1).toNat (min (filled bal ks a).2 (bal.getD (y - 1).toNat 0)), (filled bal ks a).2 - min (filled bal ks a).2 (bal.getD (y - 1).toNat 0)) := by
  have e : (ks ++ [y]).length = ks.length + 1 := by simp
  have e2 : (ks ++ [y]).getD ks.length 0 = y := by simp [List.getD]
  unfold filled
  rw [e]
  simp only [fill, fill_app _ _ _ _ _ (Nat.le_refl _), e2]
/-- What the first one has. -/
def g0 (bs : List Int) (K : Nat) (am : Int) : List Int := (List.replicate bs.length 0).set K (min am (bs.getD K 0))
def gTh (bs : List Int) (K : Nat) (am : Int) : List Int := bs.set K (bs.getD K 0 - min am (bs.getD K 0))
theorem set_getD {l : List Int} {i j : Nat} {x : Int} (hi : i < l.length) : (l.set i x).getD j 0 = if i = j then x else l.getD j 0 := by
  simp only [List.getD_eq_getElem?_getD, List.getElem?_set]
  by_cases h : i = j
  · simp [h, show j < l.length by omega]
  · simp [h]
theorem give_inv {bs R : List Int} {K : Nat} {am : Int} (hK : K < bs.length) (hb : ∀ x ∈ bs, 0 ≤ x) (hR : ∀ x ∈ R, 1 ≤ x ∧ x ≤ bs.length) (j : Nat) (hj : j ≤ R.length) :
    (filled bs (((K : Int) + 1) :: (R.take j).filter (fun x => x != (K : Int) + 1)) am).2 = (fill (gTh bs K am) R (am - min am (bs.getD K 0)) j).2 ∧
    (∀ i, i < bs.length → (filled bs (((K : Int) + 1) :: (R.take j).filter (fun x => x != (K : Int) + 1)) am).1.getD i 0 = (g0 bs K am).getD i 0 + (fill (gTh bs K am) R (am - min am (bs.getD K 0)) j).1.getD i 0) ∧
    (fill (gTh bs K am) R (am - min am (bs.getD K 0)) j).1.getD K 0 = 0 := by
  have hKb : 0 ≤ bs.getD K 0 := getD_nn hb K
  have hTl : (gTh bs K am).length = bs.length := by simp [gTh]
  have hTb : ∀ x ∈ gTh bs K am, 0 ≤ x := by
    intro x hx
    unfold gTh at hx
    rcases List.mem_or_eq_of_mem_set hx with h | h
    · exact hb x h
    · subst h; omega
  have ha2 : 0 ≤ am - min am (bs.getD K 0) := by omega
  induction j with
  | zero =>
    have e : filled bs [((K : Int) + 1)] am = ((List.replicate bs.length 0).set K (min am (bs.getD K 0)), am - min am (bs.getD K 0)) := by
      simp [filled, fill]
    simp only [List.take_zero, List.filter_nil, e, fill]
    refine ⟨trivial, fun i hi => ?_, by simp [List.getD, hTl, hK]⟩
    simp [g0, List.getD, hTl, hi]
  | succ j ih =>
    obtain ⟨i1, i2, i3⟩ := ih (by omega)
    have hl := fill_left (amount := am - min am (bs.getD K 0)) ha2 hTb (ks := R) j
    have hln := fill_length (gTh bs K am) R (am - min am (bs.getD K 0)) j
    obtain ⟨r, hr⟩ : ∃ r, R.getD j 0 = r := ⟨_, rfl⟩
    have hrj : R[j]'(by omega) = r := by rw [← hr]; simp [List.getD, show j < R.length by omega]
    have hrR := hR r (by rw [← hrj]; exact List.getElem_mem _)
    have hF : (fill (gTh bs K am) R (am - min am (bs.getD K 0)) (j + 1)) = ((fill (gTh bs K am) R (am - min am (bs.getD K 0)) j).1.set (r - 1).toNat (min (fill (gTh bs K am) R (am - min am (bs.getD K 0)) j).2 ((gTh bs K am).getD (r - 1).toNat 0)), (fill (gTh bs K am) R (am - min am (bs.getD K 0)) j).2 - min (fill (gTh bs K am) R (am - min am (bs.getD K 0)) j).2 ((gTh bs K am).getD (r - 1).toNat 0)) := by
      simp only [fill, hr]
    have hT : (R.take (j + 1)).filter (fun x => x != (K : Int) + 1) = if (r != (K : Int) + 1) = true then (R.take j).filter (fun x => x != (K : Int) + 1) ++ [r] else (R.take j).filter (fun x => x != (K : Int) + 1) := by
      rw [List.take_succ_eq_append_getElem (by omega), hrj, List.filter_append]
      by_cases h : (r != (K : Int) + 1) = true
      · rw [if_pos h]; simp [h]
      · rw [if_neg h]; simp [h]
    rw [hF, hT]
    have hthK : (gTh bs K am).getD K 0 = bs.getD K 0 - min am (bs.getD K 0) := by unfold gTh; rw [set_getD hK, if_pos rfl]
    by_cases h : (r != (K : Int) + 1) = true
    · rw [if_pos h, ← List.cons_append, filled_snoc]
      have hne : (r - 1).toNat ≠ K := by simp at h; omega
      have hth : (gTh bs K am).getD (r - 1).toNat 0 = bs.getD (r - 1).toNat 0 := by unfold gTh; rw [set_getD hK, if_neg (by omega)]
      rw [hth, i1]
      have hFl : (filled bs (((K : Int) + 1) :: (R.take j).filter (fun x => x != (K : Int) + 1)) am).1.length = bs.length := fill_length _ _ _ _
      refine ⟨rfl, fun i hi => ?_, ?_⟩
      · rw [set_getD (by rw [hFl]; omega), set_getD (by omega)]
        by_cases e : (r - 1).toNat = i
        · rw [if_pos e, if_pos e]
          have : (g0 bs K am).getD i 0 = 0 := by
            unfold g0
            rw [set_getD (by simp; exact hK), if_neg (by omega)]
            simp [List.getD, hi]
          omega
        · rw [if_neg e, if_neg e]
          exact i2 i hi
      · rw [set_getD (by omega), if_neg hne]
        exact i3
    · rw [if_neg h]
      have he : (r - 1).toNat = K := by simp at h; omega
      have hz : min (fill (gTh bs K am) R (am - min am (bs.getD K 0)) j).2 (bs.getD K 0 - min am (bs.getD K 0)) = 0 := by omega
      rw [he, hthK, hz]
      refine ⟨by rw [i1]; omega, fun i hi => ?_, ?_⟩
      · rw [i2 i hi, set_getD (by omega)]
        by_cases e : K = i
        · subst e; rw [if_pos rfl, i3]
        · rw [if_neg e]
      · rw [set_getD (by omega), if_pos rfl]
theorem give_eq {bs rates : List Int} {K : Nat} {am : Int} (hK : K < bs.length) (hr : rates.length = bs.length) (hb : ∀ x ∈ bs, 0 ≤ x) :
    (filled bs (giveO rates ((K : Int) + 1)) am).2 = (filled (gTh bs K am) (rankL ltHigh rates rates.length) (am - min am (bs.getD K 0))).2 ∧
    (filled bs (giveO rates ((K : Int) + 1)) am).1 = addL (g0 bs K am) (filled (gTh bs K am) (rankL ltHigh rates rates.length) (am - min am (bs.getD K 0))).1 := by
  have hR : ∀ x ∈ rankL ltHigh rates rates.length, 1 ≤ x ∧ x ≤ bs.length := fun x hx => by have := rankL_mem hx; omega
  have hl : (rankL ltHigh rates rates.length).length = rates.length := rankL_length _ _ _
  obtain ⟨h1, h2, _⟩ := give_inv hK hb hR (rankL ltHigh rates rates.length).length (Nat.le_refl _)
  rw [List.take_length] at h1 h2
  refine ⟨h1, ?_⟩
  have hFl : (filled bs (giveO rates ((K : Int) + 1)) am).1.length = bs.length := fill_length _ _ _ _
  have hGl : (filled (gTh bs K am) (rankL ltHigh rates rates.length) (am - min am (bs.getD K 0))).1.length = bs.length := by
    have := fill_length (gTh bs K am) (rankL ltHigh rates rates.length) (am - min am (bs.getD K 0)) (rankL ltHigh rates rates.length).length
    rw [show (gTh bs K am).length = bs.length by simp [gTh]] at this
    exact this
  have h0l : (g0 bs K am).length = bs.length := by simp [g0]
  refine List.ext_getElem (by rw [hFl]; unfold addL; rw [List.length_zipWith, h0l, hGl]; exact (Nat.min_self _).symm) fun i hi _ => ?_
  have hi' : i < bs.length := by omega
  have e := h2 i hi'
  have e1 : (filled bs (giveO rates ((K : Int) + 1)) am).1.getD i 0 = (filled bs (giveO rates ((K : Int) + 1)) am).1[i] := by simp [List.getD, hi]
  rw [← e1]
  have e2 : ∀ (l : List Int) (h : i < l.length), l[i] = l.getD i 0 := fun l h => by simp [List.getD, h]
  rw [e2, getD_addL (by omega) (by omega)]
  exact e
end Go.Proofs.Ytbiiejolemcifaa

namespace Go.Proofs.Ytbiiejolemcifaa
open Go.RowKit

set_option maxHeartbeats 1600000 in
set_option maxRecDepth 100000 in
theorem refGive11_no1 (v u : Value) (bs rates : List Int) (c d k am e : Int) (HE : Hid (askedE bs c d am [k] = e)) (hne : (e != 0) = true) (w : World) (hv : Sl .i64 w v bs) (hu : Sl .i64 w u rates) :
    Calls Try.prog 23 #[.agg #[v, .int .i64 c, .int .i64 d], u, .int .i64 k, .int .i64 am] w (RetPos ([], 0, 0, e) w) := by
  have HV := Lib.hid hv
  have HU := Lib.hid hu
  obtain ⟨ao, cap, rfl, h1, ⟨h2, hnn⟩, h3⟩ := hv
  clear h3 hnn
  obtain ⟨ao', cap', rfl, h1', ⟨h2', hnn⟩, h3⟩ := hu
  clear h3 hnn
  unfold maxLen at h2 h2'
  have HBLK : Hid (Blk ((w.alloc (.cells #[.slice ao bs.length cap, .int .i64 c, .int .i64 d] 25)).alloc (.cells #[.slice none 0 0, .int .i64 0, .int .i64 0] 25)) (w.heap.size + 1) 25 [.slice none 0 0, .int .i64 0, .int .i64 0]) := by
    have := heap_alloc_new (w.alloc (.cells #[.slice ao bs.length cap, .int .i64 c, .int .i64 d] 25)) (.cells #[.slice none 0 0, .int .i64 0, .int .i64 0] 25)
    simpa [Blk, Hid] using this
  have hB0 : Blk (w.alloc (.cells #[.slice ao bs.length cap, .int .i64 c, .int .i64 d] 25)) w.heap.size 25 [.slice ao bs.length cap, .int .i64 c, .int .i64 d] := heap_alloc_new w _
  have HB0 := Lib.hid (hB0.below (bl_al (Below.refl _ _) (.cells #[.slice none 0 0, .int .i64 0, .int .i64 0] 25)))
  have HW0 : Hid (Below w.heap.size w ((w.alloc (.cells #[.slice ao bs.length cap, .int .i64 c, .int .i64 d] 25)).alloc (.cells #[.slice none 0 0, .int .i64 0, .int .i64 0] 25))) := bl_al (bl_al (Below.refl _ _) _) _
  clear hB0
  go_enter Try.func23, Try.ntmps23
  go_wp2_with fail
  refine (refAsked11_any _ bs c d _ am _ HE _ (HV.out.below HW0.out)).mono ?_
  rintro _ w1 ⟨rfl, hb1⟩
  have HB1 := Lib.hid (HB0.out.below hb1)
  have HR1 := Lib.hid (HBLK.out.below hb1)
  have HBF := Lib.hid (bl_tr HW0.out hb1)
  clear hb1
  have hR := HR1.out
  have r0 := hR.cell 0
  have r1 := hR.cell 1
  have r2 := hR.cell 2
  simp only [List.getElem?_cons_zero, List.getElem?_cons_succ] at r0 r1 r2
  have f0 := hR.frozen 0
  have f1 := hR.frozen 1
  have f2 := hR.frozen 2
  have hlt4 := hR.lt
  clear hR
  go_wp2
  refine bodyPost_ret (v := .tuple #[.agg #[.slice none 0 0, .int .i64 0, .int .i64 0], .int .i64 e]) (by simp [results, Try.results23, go_sem, r0, r1, r2]) rfl ⟨.slice none 0 0, rfl, Sl.nil, bl_s3 HBF.out (by omega) _ _ _⟩

set_option maxHeartbeats 1600000 in
set_option maxRecDepth 100000 in
theorem refGive11_no2 (v u : Value) (bs rates : List Int) (c d k am : Int) (HE : Hid (askedE bs c d am [k] = 0)) (hl : ¬ rates.length = bs.length) (w : World) (hv : Sl .i64 w v bs) (hu : Sl .i64 w u rates) :
    Calls Try.prog 23 #[.agg #[v, .int .i64 c, .int .i64 d], u, .int .i64 k, .int .i64 am] w (RetPos ([], 0, 0, 1) w) := by
  have HV := Lib.hid hv
  have HU := Lib.hid hu
  obtain ⟨ao, cap, rfl, h1, ⟨h2, hnn⟩, h3⟩ := hv
  clear h3 hnn
  obtain ⟨ao', cap', rfl, h1', ⟨h2', hnn⟩, h3⟩ := hu
  clear h3 hnn
  unfold maxLen at h2 h2'
  have HBLK : Hid (Blk ((w.alloc (.cells #[.slice ao bs.length cap, .int .i64 c, .int .i64 d] 25)).alloc (.cells #[.slice none 0 0, .int .i64 0, .int .i64 0] 25)) (w.heap.size + 1) 25 [.slice none 0 0, .int .i64 0, .int .i64 0]) := by
    have := heap_alloc_new (w.alloc (.cells #[.slice ao bs.length cap, .int .i64 c, .int .i64 d] 25)) (.cells #[.slice none 0 0, .int .i64 0, .int .i64 0] 25)
    simpa [Blk, Hid] using this
  have hB0 : Blk (w.alloc (.cells #[.slice ao bs.length cap, .int .i64 c, .int .i64 d] 25)) w.heap.size 25 [.slice ao bs.length cap, .int .i64 c, .int .i64 d] := heap_alloc_new w _
  have HB0 := Lib.hid (hB0.below (bl_al (Below.refl _ _) (.cells #[.slice none 0 0, .int .i64 0, .int .i64 0] 25)))
  have HW0 : Hid (Below w.heap.size w ((w.alloc (.cells #[.slice ao bs.length cap, .int .i64 c, .int .i64 d] 25)).alloc (.cells #[.slice none 0 0, .int .i64 0, .int .i64 0] 25))) := bl_al (bl_al (Below.refl _ _) _) _
  clear hB0
  have d1 : (!((rates.length : Int) == (bs.length : Int))) = true := by simp; omega
  have d2 : ((rates.length : Int) != (bs.length : Int)) = true := by simp; omega
  go_enter Try.func23, Try.ntmps23
  go_wp2_with fail
  refine (refAsked11_any _ bs c d _ am _ HE _ (HV.out.below HW0.out)).mono ?_
  rintro _ w1 ⟨rfl, hb1⟩
  have HB1 := Lib.hid (HB0.out.below hb1)
  have HR1 := Lib.hid (HBLK.out.below hb1)
  have HBF := Lib.hid (bl_tr HW0.out hb1)
  clear hb1
  have hB := HB1.out
  have c0 := hB.cell 0
  have c1 := hB.cell 1
  have c2 := hB.cell 2
  simp only [List.getElem?_cons_zero, List.getElem?_cons_succ] at c0 c1 c2
  clear hB
  have hR := HR1.out
  have r0 := hR.cell 0
  have r1 := hR.cell 1
  have r2 := hR.cell 2
  simp only [List.getElem?_cons_zero, List.getElem?_cons_succ] at r0 r1 r2
  have f0 := hR.frozen 0
  have f1 := hR.frozen 1
  have f2 := hR.frozen 2
  have hlt4 := hR.lt
  clear hR
  go_wp2
  refine bodyPost_ret (v := .tuple #[.agg #[.slice none 0 0, .int .i64 0, .int .i64 0], .int .i64 1]) (by simp [results, Try.results23, go_sem, r0, r1, r2]) rfl ⟨.slice none 0 0, rfl, Sl.nil, bl_s3 HBF.out (by omega) _ _ _⟩

set_option maxHeartbeats 3200000 in
set_option maxRecDepth 100000 in
theorem refGive11_yes (v u : Value) (bs rates : List Int) (c d am : Int) (K : Nat) (HE : Hid (askedE bs c d am [(K : Int) + 1] = 0)) (hl : rates.length = bs.length) (hK : K < bs.length) (y n1 a2 z le : Int) (M : List Int) (L : List Int)
    (hy : Hid (bs.getD K 0 = y)) (hn1 : min am y = n1) (ha2 : am - n1 = a2) (hz : y - n1 = z) (hb : (0 ≤ y ∧ y ≤ 1000000000000000) ∧ (0 ≤ am ∧ am ≤ 1000000000000000)) (HI : Hid (intoR (bs.set K z) (rankL ltHigh rates rates.length) a2 = (M, le, 0)))
    (hM : Hid (M.length = bs.length ∧ addL ((List.replicate bs.length 0).set K n1) M = L ∧ ∀ j, j < bs.length → 0 ≤ L.getD j 0 ∧ L.getD j 0 ≤ bs.getD j 0 ∧ bs.getD j 0 ≤ 1000000000000000)) (hle : Hid (0 ≤ c + le ∧ c + le ≤ 9000000000000000)) (l2 : List Int) (x2 y2 e2 : Int) (HS : Hid (lessS bs L c d le = (l2, x2, y2, e2))) (hlen : bs.length ≤ 1000) (w : World) (hv : Sl .i64 w v bs) (hu : Sl .i64 w u rates) :
    Calls Try.prog 23 #[.agg #[v, .int .i64 c, .int .i64 d], u, .int .i64 ((K : Int) + 1), .int .i64 am] w (RetPos (l2, x2, y2, e2) w) := by
  have HV := Lib.hid hv
  have HU := Lib.hid hu
  obtain ⟨ao, cap, rfl, h1, ⟨h2, hnn⟩, h3⟩ := hv
  clear h3 hnn
  obtain ⟨ao', cap', rfl, h1', ⟨h2', hnn⟩, h3⟩ := hu
  clear h3 hnn
  unfold maxLen at h2 h2'
  have HBLK : Hid (Blk ((w.alloc (.cells #[.slice ao bs.length cap, .int .i64 c, .int .i64 d] 25)).alloc (.cells #[.slice none 0 0, .int .i64 0, .int .i64 0] 25)) (w.heap.size + 1) 25 [.slice none 0 0, .int .i64 0, .int .i64 0]) := by
    have := heap_alloc_new (w.alloc (.cells #[.slice ao bs.length cap, .int .i64 c, .int .i64 d] 25)) (.cells #[.slice none 0 0, .int .i64 0, .int .i64 0] 25)
    simpa [Blk, Hid] using this
  have hB0 : Blk (w.alloc (.cells #[.slice ao bs.length cap, .int .i64 c, .int .i64 d] 25)) w.heap.size 25 [.slice ao bs.length cap, .int .i64 c, .int .i64 d] := heap_alloc_new w _
  have HB0 := Lib.hid (hB0.below (bl_al (Below.refl _ _) (.cells #[.slice none 0 0, .int .i64 0, .int .i64 0] 25)))
  have HW0 : Hid (Below w.heap.size w ((w.alloc (.cells #[.slice ao bs.length cap, .int .i64 c, .int .i64 d] 25)).alloc (.cells #[.slice none 0 0, .int .i64 0, .int .i64 0] 25))) := bl_al (bl_al (Below.refl _ _) _) _
  clear hB0
  have d2 : ((rates.length : Int) != (bs.length : Int)) = false := by simp; omega
  have hm1 : (if y < am then y else am) = n1 := by split <;> omega
  have HM1 := Lib.hid hm1
  have wz : wrap64 (y - n1) = z := by rw [hz]; exact IntWalk.wrap64_in _ ⟨by omega, by omega⟩
  have wz1 : IntKind.i64.wrap (y - n1) = z := by rw [hz]; exact IntWalk.i64_in _ ⟨by omega, by omega⟩
  have wa : wrap64 (am - n1) = a2 := by rw [ha2]; exact IntWalk.wrap64_in _ ⟨by omega, by omega⟩
  have wa1 : IntKind.i64.wrap (am - n1) = a2 := by rw [ha2]; exact IntWalk.i64_in _ ⟨by omega, by omega⟩
  have hn1b : 0 ≤ n1 ∧ n1 ≤ y := by omega
  have WZ := Lib.hid (And.intro wz (And.intro wz1 (And.intro wa wa1)))
  have HX := Lib.hid (And.intro hl (And.intro hK (And.intro hlen (And.intro hb hn1b))))
  obtain ⟨i0, hi, hz0, hz1, hz2⟩ := info_parts info_clone
  clear hm1 wz wz1 wa wa1 hn1 ha2 hz hb hn1b hl
  go_enter Try.func23, Try.ntmps23
  go_wp2_with fail
  refine (refAsked11_any _ bs c d _ am _ HE _ (HV.out.below HW0.out)).mono ?_
  rintro _ w1 ⟨rfl, hb1⟩
  have HB1 := Lib.hid (HB0.out.below hb1)
  have HR1 := Lib.hid (HBLK.out.below hb1)
  have HBF := Lib.hid (bl_tr HW0.out hb1)
  clear hb1
  have hB := HB1.out
  have c0 := hB.cell 0
  have c1 := hB.cell 1
  have c2 := hB.cell 2
  simp only [List.getElem?_cons_zero, List.getElem?_cons_succ] at c0 c1 c2
  clear hB
  have hbs := HBF.out.size
  have HNO : Hid (ao = none → bs.length = 0 ∧ cap = 0) := HV.out.none_cap
  go_upto_region 8 with (at_make; refine wpList_make_full _ rfl _ _ 23 rfl w1.heap.size 2 i0 (.int .i64 0) 1 Try.underlying23 hi hz0 hz1 _ _ _ _ bs.length rfl rfl rfl rfl (by rw [hz2]; omega) (by unfold maxLen; omega) (Nat.le_refl _) ?_; intro w2 hown2 hgrow2; obtain ⟨cur0, hG0, _, _, hcl0, hct0, _⟩ := blk_of_own hown2; have hc0 : cur0 = List.replicate bs.length (.int .i64 0) := (by rw [← List.take_of_length_le (show cur0.length ≤ bs.length * 1 by omega), hct0, Nat.mul_one]; exact toList_madeCells_one _ _); have hb12 : Below w1.heap.size w1 w2 := grown_below1 hgrow2; have hG1 : Nums w2 w1.heap.size bs.length (List.replicate bs.length 0) := ⟨cur0, hG0, by rw [hc0]; simp, by rw [hc0]; simp⟩; have HG := Lib.hid hG1; have HBF2 := Lib.hid (bl_tr HBF.out hb12); have HB2 := Lib.hid (HB1.out.below hb12); have HR2 := Lib.hid (HR1.out.below hb12); have HV2 := Lib.hid (HV.out.below (bl_tr HBF.out hb12)); have hz1' := HR1.out.lt; have hzg := hG1.lt; obtain ⟨bb, oo, hao, hy2⟩ := HV2.out.at (i := K) hK; subst hao; rw [hy.out] at hy2; have HPOS := Lib.hid (show ∀ W, Below w.heap.size w W → Sl .i64 W (.slice (some ⟨bb, oo, none⟩) bs.length cap) bs from fun W h => HV.out.below h); obtain ⟨bb0, oo0, e0, hbb⟩ := HV.out.at (i := K) hK; obtain ⟨rfl, rfl⟩ : bb = bb0 ∧ oo = oo0 := (by simpa using e0); have hbb1 := cell_block_lt hbb; clear e0 hbb; have hB := HB2.out; clear c0 c1 c2; have c0 := hB.cell 0; have c1 := hB.cell 1; have c2 := hB.cell 2; simp only [List.getElem?_cons_zero, List.getElem?_cons_succ] at c0 c1 c2; clear hB hc0 hct0 hcl0 hG0 hG1 hown2 hgrow2 hb12 cur0; have gk := HG.out.cell (i := K) (by simp; exact hK); have gf := HG.out.frozen K; have hKi : (K : Int) < (bs.length : Int) := (by omega); have hm1 := HM1.out)
  clear hm1
  go_upto_region 9 with fail
  obtain ⟨W, hW, gG, gP, gR, gB, gV⟩ : ∃ W, (w2.setCell ⟨w1.heap.size, K, none⟩ (.int .i64 n1)) = W ∧ Hid (Nums W w1.heap.size bs.length ((List.replicate bs.length 0).set K n1)) ∧ Hid (Blk W w.heap.size 25 [.slice (some ⟨bb, oo, none⟩) bs.length cap, .int .i64 c, .int .i64 d]) ∧ Hid (Blk W (w.heap.size + 1) 25 [.slice none 0 0, .int .i64 0, .int .i64 0]) ∧ Hid (Below w.heap.size w W) ∧ Hid (Sl .i64 W (.slice (some ⟨bb, oo, none⟩) bs.length cap) bs) :=
    ⟨_, rfl, HG.out.set K n1, HB2.out.setOther (by omega) _ _, HR2.out.setOther (by omega) _ _, HBF2.out.setCell (by omega) _, HV.out.below (HBF2.out.setCell (by omega) _)⟩
  with_reducible rw [hW]
  clear hW c0 c1 c2 gk gf hy2 HG HB2 HR2 HBF2 HV2
  have hB := gP.out
  have c0 := hB.cell 0
  have c1 := hB.cell 1
  have c2 := hB.cell 2
  simp only [List.getElem?_cons_zero, List.getElem?_cons_succ] at c0 c1 c2
  clear hB
  have hzg2 := gG.out.lt
  go_upto_region 10 with (at_builtin; refine wpList_append_any _ rfl (.const (.slice none 0 0)) (.tmp 51) 23 rfl W.heap.size 2 i0 (.int .i64 0) 1 8 Try.underlying23 hi hz0 hz1 hz2 rfl (by decide) (.slice none 0 0) 0 [] rfl (World.ownsRow_nil _ _ _ _) (some ⟨bb, oo, none⟩) bs.length cap (bs.map (Value.int .i64)) rfl (by simp) HNO.out gV.out.news (ints_oneCell _ _) (by unfold maxLen; omega) (by omega) (Nat.le_refl _) ?_; intro v3 w3 hown3 hg3 hn3; clear hn3; have HG3 := Lib.hid hg3; have HO3 := Lib.hid hown3; clear hg3 hown3)
  have hb3 := grown_below1 HG3.out
  have hown : w3.ownsRow W.heap.size 2 1 v3 bs.length (bs.map (Value.int .i64)) := by
    have h := HO3.out
    rw [Nat.zero_add, List.nil_append] at h
    exact h
  obtain ⟨ao3, capr, rfl, hnc, hcm, hBR⟩ := own_block hown
  obtain ⟨gr, hgr0, hgr1, cur, hcur1, hcur2, hcur3⟩ := hBR (by omega)
  subst hgr0
  have HN3 : Hid (Nums w3 gr capr bs) := ⟨cur, hcur1, hcur2, hcur3⟩
  have GG3 := Lib.hid (gG.out.below hb3)
  have GP3 := Lib.hid (gP.out.below hb3)
  have GR3 := Lib.hid (gR.out.below hb3)
  have GB3 := Lib.hid (bl_tr gB.out hb3)
  have hgr3 := HN3.out.lt
  have t5 := HN3.out.cell (i := K) hK
  rw [hy.out] at t5
  have tf := HN3.out.frozen K
  have hKc : K < capr := by omega
  obtain ⟨wz, wz1, wa, wa1⟩ := WZ.out
  clear hBR hcur1 hcur2 hcur3 cur hown HO3 HG3 hb3 gG gP gR gB gV c0 c1 c2 wz1 wa wa1
  go_upto_region 11 with fail
  clear wz
  obtain ⟨W4, hW4, gT, gG, gP, gR, gB⟩ : ∃ W4, (w3.setCell ⟨gr, K, none⟩ (.int .i64 z)) = W4 ∧ Hid (Nums W4 gr capr (bs.set K z)) ∧ Hid (Nums W4 w1.heap.size bs.length ((List.replicate bs.length 0).set K n1)) ∧ Hid (Blk W4 w.heap.size 25 [.slice (some ⟨bb, oo, none⟩) bs.length cap, .int .i64 c, .int .i64 d]) ∧ Hid (Blk W4 (w.heap.size + 1) 25 [.slice none 0 0, .int .i64 0, .int .i64 0]) ∧ Hid (Below w.heap.size w W4) :=
    ⟨_, rfl, HN3.out.set K z, GG3.out.setOther (by omega) _ _, GP3.out.setOther (by omega) _ _, GR3.out.setOther (by omega) _ _, GB3.out.setCell (show w.heap.size ≤ gr by omega) _⟩
  with_reducible rw [hW4]
  clear hW4 t5 tf HN3 GG3 GP3 GR3 GB3
  have HCN := Lib.hid (And.intro hnc hcm)
  have HTL : Hid ((bs.set K z).length = bs.length) := by show _ = _; simp
  have HRL : Hid ((rankL ltHigh rates rates.length).length ≤ 1000) := by show _ ≤ 1000; rw [rankL_length, HX.out.1]; exact hlen
  clear hnc hcm
  go_wp2_with fail
  refine (refHigh_any _ rates _ (HU.out.below gB.out) (by rw [HX.out.1]; exact hlen)).mono ?_
  rintro _ w5 ⟨u5, rfl, hu5, hb5⟩
  rw [ltOf_t] at hu5
  obtain ⟨a5, q5, rfl⟩ := hu5.shape
  have HU5 := Lib.hid hu5
  have gT5 := Lib.hid (gT.out.below hb5)
  have gG5 := Lib.hid (gG.out.below hb5)
  have gP5 := Lib.hid (gP.out.below hb5)
  have gR5 := Lib.hid (gR.out.below hb5)
  have gB5 := Lib.hid (bl_tr gB.out hb5)
  obtain ⟨wz, wz1, wa, wa1⟩ := WZ.out
  clear hu5 hb5 gT gG gP gR gB wz wz1 wa1
  go_wp2_with fail
  clear wa
  have HT5 := gT5.out.sl HTL.out HCN.out.1 HCN.out.2
  refine (refInto_any _ _ (bs.set K z) (rankL ltHigh rates rates.length) a2 _ HI _ HT5 HU5.out (by rw [HTL.out]; exact hlen) HRL.out).mono ?_
  rintro _ w6 ⟨u6, rfl, hown6, hb6⟩
  simp only at hown6 ⊢
  obtain ⟨ao6, cap6, rfl, hn6, hm6, hB6⟩ := own_block hown6
  obtain ⟨g6, hg60, hg61, cur6, hc61, hc62, hc63⟩ := hB6 (by rw [hM.out.1]; omega)
  subst hg60
  have gM6 : Hid (Nums w6 g6 cap6 M) := ⟨cur6, hc61, hc62, hc63⟩
  have gG6 := Lib.hid (gG5.out.below hb6)
  have gP6 := Lib.hid (gP5.out.below hb6)
  have gR6 := Lib.hid (gR5.out.below hb6)
  have gB6 := Lib.hid (bl_tr gB5.out hb6)
  have hz5 := gG5.out.lt
  have hz56 := hb6.size
  have HN6 := Lib.hid (And.intro hn6 hm6)
  clear hB6 hc61 hc62 hc63 cur6 hown6 hb6 HT5 gT5 gG5 gP5 gR5 gB5 hn6 hm6 hgr3
  have HG0L : Hid (((List.replicate bs.length (0 : Int)).set K n1).length = bs.length) := by show _ = _; simp
  have HLL : Hid (L.length = bs.length) := by show _ = _; rw [← hM.out.2.1]; unfold addL; rw [List.length_zipWith, HG0L.out, hM.out.1]; exact Nat.min_self _
  have hg6n : g6 ≠ w1.heap.size := by omega
  have hML := hM.out.1
  have HML := Lib.hid hML
  have hcap6 : bs.length ≤ cap6 := by have := HN6.out.1; omega
  rw [hML]
  clear hML
  go_wp2_with fail
  go_loopg [17] bs.length (fun g i wr => ∃ k : Nat, k + g = bs.length ∧ i = .int .i64 k ∧ Hid (Nums wr w1.heap.size bs.length (mixL L ((List.replicate bs.length 0).set K n1) k) ∧ Nums wr g6 cap6 M ∧ Blk wr w.heap.size 25 [.slice (some ⟨bb, oo, none⟩) bs.length cap, .int .i64 c, .int .i64 d] ∧ Blk wr (w.heap.size + 1) 25 [.slice none 0 0, .int .i64 0, .int .i64 0] ∧ Below w.heap.size w wr))
  case atStart => exact ⟨0, by omega, rfl, by rw [mixL_zero]; exact gG6.out, gM6.out, gP6.out, gR6.out, gB6.out⟩
  case round =>
    obtain ⟨k, hkg, rfl, HI2⟩ := hrel
    cases gk with
    | succ g =>
      have hlt : (k : Int) < (bs.length : Int) := by omega
      have hkn : k < bs.length := by omega
      have hkc : k < cap6 := by omega
      obtain ⟨hNm, hM6, hBp, hRr, hbw⟩ := HI2.out
      have hml := mixL_length (k := k) HLL.out HG0L.out (Nat.le_of_lt hkn)
      have c5 := hNm.cell (i := k) (by omega)
      rw [mixL_get HLL.out HG0L.out hkn] at c5
      have f5 := hNm.frozen k
      have c8 := hM6.cell (i := k) (by rw [HML.out]; exact hkn)
      have hadd := getD_addL (a := (List.replicate bs.length 0).set K n1) (b := M) (i := k) (by rw [HG0L.out]; exact hkn) (by rw [HML.out]; exact hkn)
      rw [hM.out.2.1] at hadd
      have hr := hM.out.2.2 k hkn
      generalize ((List.replicate bs.length 0).set K n1).getD k 0 = x at c5 hadd
      generalize M.getD k 0 = y9 at c8 hadd
      rw [hadd] at hr
      have HS2 := Lib.hid hadd
      have HZ := Lib.hid (And.intro hNm (And.intro hM6 (And.intro hBp (And.intro hRr hbw))))
      have wx1 : IntKind.i64.wrap (x + y9) = x + y9 := IntWalk.i64_in _ ⟨by omega, by omega⟩
      clear hadd hNm hM6 hBp hRr hbw hml HI2
      go_wp2_with fail
      go_region
      go_wp2_with fail
      go_roundg g
      case measure => omega
      case rel =>
        obtain ⟨hNm, hM6, hBp, hRr, hbw⟩ := HZ.out
        refine ⟨k + 1, by omega, by go_num, ?_, hM6.setOther hg6n _ _, hBp.setOther (by omega) _ _, hRr.setOther (by omega) _ _, (hbw.setCell (show w.heap.size ≤ w1.heap.size by omega) _).drew⟩
        have e := mixL_set HLL.out HG0L.out hkn
        rw [HS2.out] at e
        rw [← e]
        exact hNm.set k (x + y9)
    | zero =>
      obtain rfl : k = bs.length := by omega
      have hlt : ¬ ((bs.length : Int) < (bs.length : Int)) := by omega
      obtain ⟨hNm, hM6, hBp, hRr, hbw⟩ := HI2.out
      rw [mixL_all HLL.out HG0L.out] at hNm
      have c0 := hBp.cell 0
      have c1 := hBp.cell 1
      have c2 := hBp.cell 2
      simp only [List.getElem?_cons_zero, List.getElem?_cons_succ] at c0 c1 c2

      have GV := Lib.hid (HV.out.below hbw)
      have GL := Lib.hid (hNm.sl HLL.out (Nat.le_refl _) (by unfold maxLen; omega))
      have GR := Lib.hid hRr
      have GB := Lib.hid hbw
      have hL1 : 1 ≤ bs.length := by omega
      clear hNm hM6 hBp hRr hbw HI2
      go_wp2_with fail
      refine (refLess11_any _ _ bs L c d le _ HS HLL.out hM.out.2.2 hle.out hL1 hlen _ GV.out GL.out).mono ?_
      rintro _ w7 ⟨u7, rfl, ⟨hul, huf⟩, hb7⟩
      simp only at hul ⊢
      have HUL := Lib.hid hul
      obtain ⟨au, cu, rfl⟩ := hul.shape
      have hlt1 := GR.out.lt
      have HNE : Hid (∀ b o m q, (Value.slice au l2.length cu) = .slice (some ⟨b, o, none⟩) m q → 0 < m → b ≠ w.heap.size + 1) := fun b o m q e hm => by
        have := huf b o m q e hm
        omega
      have hbf := bl_tr GB.out hb7
      have hR := GR.out.below hb7
      have r0 := hR.cell 0
      have r1 := hR.cell 1
      have r2 := hR.cell 2
      simp only [List.getElem?_cons_zero, List.getElem?_cons_succ] at r0 r1 r2
      have f0 := hR.frozen 0
      have f1 := hR.frozen 1
      have f2 := hR.frozen 2
      have hlt4 := hR.lt
      clear hR hb7 hul huf
      go_wp2
      refine bodyPost_ret (v := .tuple #[.agg #[.slice au l2.length cu, .int .i64 x2, .int .i64 y2], .int .i64 e2]) (by simp [results, Try.results23, go_sem, r0, r1, r2]) rfl ⟨.slice au l2.length cu, rfl, ((HUL.out.setCell HNE.out _).setCell HNE.out _).setCell HNE.out _, bl_s3 hbf (by omega) _ _ _⟩

theorem refGive11_any (v u : Value) (bs rates : List Int) (c d k am : Int) (s : List Int × Int × Int × Int) (hs : Hid (giveS bs c d rates k am = s)) (hlen : bs.length ≤ 1000) (w : World) (hv : Sl .i64 w v bs) (hu : Sl .i64 w u rates) :
    Calls Try.prog 23 #[.agg #[v, .int .i64 c, .int .i64 d], u, .int .i64 k, .int .i64 am] w (RetPos s w) := by
  have hs := hs.out
  subst hs
  unfold giveS
  by_cases he : askedE bs c d am [k] = 0
  · rw [if_neg (by simp [he])]
    by_cases hl : rates.length = bs.length
    · rw [if_neg (by simp [hl])]
      obtain ⟨hr, hk1, hk2, ham1, ham2⟩ := asked_ok he
      obtain ⟨⟨hc1, hc2⟩, hmay⟩ := rightP_may hr
      have hbad := any_bad_no (rightP_sums hr)
      have hb0 : ∀ x ∈ bs, 0 ≤ x := fun x hx => (bad_no hbad x hx).1
      obtain ⟨K, rfl⟩ : ∃ K : Nat, k = (K : Int) + 1 := ⟨(k - 1).toNat, by omega⟩
      have hK : K < bs.length := by omega
      have hyr := hmay K hK
      obtain ⟨e1, e2⟩ := give_eq (am := am) hK hl hb0
      have hle := fill_left (bal := bs) (ks := giveO rates ((K : Int) + 1)) ham1 hb0 (giveO rates ((K : Int) + 1)).length
      have hTl : (gTh bs K am).length = bs.length := by simp [gTh]
      have hML : (filled (gTh bs K am) (rankL ltHigh rates rates.length) (am - min am (bs.getD K 0))).1.length = bs.length := by
        have := fill_length (gTh bs K am) (rankL ltHigh rates rates.length) (am - min am (bs.getD K 0)) (rankL ltHigh rates rates.length).length
        rw [hTl] at this
        exact this
      have hI : intoR (gTh bs K am) (rankL ltHigh rates rates.length) (am - min am (bs.getD K 0)) = ((filled (gTh bs K am) (rankL ltHigh rates rates.length) (am - min am (bs.getD K 0))).1, (filled (gTh bs K am) (rankL ltHigh rates rates.length) (am - min am (bs.getD K 0))).2, 0) := by
        refine into_yes ?_ ?_ (by omega)
        · rw [hTl]
          refine ordT_of2 (fun i hi => ?_) (rankL_nodup _ _ _) _ (Nat.le_refl _)
          have e : (rankL ltHigh rates rates.length).getD i 0 = (rankL ltHigh rates rates.length)[i] := by simp [List.getD, hi]
          rw [e]
          have := rankL_mem (List.getElem_mem hi)
          omega
        · rw [List.any_eq_false]
          intro x hx
          unfold gTh at hx
          have hx2 : 0 ≤ x ∧ x ≤ 1000000000000000 := by
            rcases List.mem_or_eq_of_mem_set hx with h | h
            · exact bad_no hbad x h
            · subst h; omega
          simp [badMoney]
          omega
      have hS : (if rightP (subL bs (filled bs (giveO rates ((K : Int) + 1)) am).1) (c + (filled bs (giveO rates ((K : Int) + 1)) am).2) d = true then
          (subL bs (filled bs (giveO rates ((K : Int) + 1)) am).1, c + (filled bs (giveO rates ((K : Int) + 1)) am).2, d, (0 : Int)) else ([], 0, 0, 5)) = lessS bs (filled bs (giveO rates ((K : Int) + 1)) am).1 c d (filled bs (giveO rates ((K : Int) + 1)) am).2 := rfl
      rw [hS]
      refine refGive11_yes v u bs rates c d am K he hl hK _ _ _ _ (filled bs (giveO rates ((K : Int) + 1)) am).2 _ _ rfl rfl rfl rfl ⟨hyr, ham1, ham2⟩ (by rw [e1]; exact hI) (Lib.hid ⟨hML, e2.symm, fun j hj => ?_⟩) (Lib.hid ?_) _ _ _ _ rfl hlen w hv hu
      · have := fill_range (ks := giveO rates ((K : Int) + 1)) ham1 hb0 (giveO rates ((K : Int) + 1)).length j hj
        exact ⟨this.1, this.2, (hmay j hj).2⟩
      · have e : (filled bs (giveO rates ((K : Int) + 1)) am).2 = (fill bs (giveO rates ((K : Int) + 1)) am (giveO rates ((K : Int) + 1)).length).2 := rfl
        omega
    · rw [if_pos (by simp [hl])]
      exact refGive11_no2 v u bs rates c d k am he hl w hv hu
  · rw [if_pos he]
    exact refGive11_no1 v u bs rates c d k am _ rfl (by simp [he]) w hv hu
end Go.Proofs.Ytbiiejolemcifaa
