/- PoolPostings: the postings of any two positions; they are none, unless both are right. -/
import Derived.Test.YtbiiejolemcifaaPostings
import Derived.Test.YtbiiejolemcifaaRefPostings
import Derived.Test.YtbiiejolemcifaaSameP
import Derived.Test.YtbiiejolemcifaaLaw11
import Derived.Deep.RegionHeld3
import Derived.Deep.DrawnRows
namespace Go.Proofs.Ytbiiejolemcifaa
open Go.RowKit
attribute [local go_sem ↓] Go.wp_at_zero Go.wp_at_succ

theorem fewP_any (v : Value) (bs : List Int) (c d : Int) (r : Bool) (hr : decide ((bs.length : Int) ≤ 30) = r) (w : World) (hv : Sl .i64 w v bs) :
    Calls Try.prog 12 #[.agg #[v, .int .i64 c, .int .i64 d]] w (RetB (.bool r) w) := by
  obtain ⟨ao, cap, rfl, h1, ⟨h2, _⟩, h3⟩ := hv
  clear h3
  unfold maxLen at h2
  go_enter Try.func12, Try.ntmps12
  go_wp2
  go_ret
  exact ⟨by first | rfl | rw [hr], bl_al (Below.refl _ _) _⟩

set_option maxHeartbeats 1600000 in
set_option maxRecDepth 100000 in
theorem poolPostings_any (v u : Value) (bs cs : List Int) (c d c2 d2 other : Int) (w : World) (hv : Sl .i64 w v bs) (hu : Sl .i64 w u cs) :
    Calls Try.prog 4 #[.agg #[v, .int .i64 c, .int .i64 d], .agg #[u, .int .i64 c2, .int .i64 d2], .int .i64 other] w (RetB (.bool true) w) := by
  have HV := Lib.hid hv
  have HU := Lib.hid hu
  obtain ⟨ao, cap, rfl, h1, ⟨h2, hnn⟩, h3⟩ := hv
  clear h3 hnn
  obtain ⟨ao', cap', rfl, h1', ⟨h2', hnn⟩, h3⟩ := hu
  clear h3 hnn
  unfold maxLen at h2 h2'
  have SB : Hid (Below w.heap.size w ((w.alloc (.cells #[.slice ao bs.length cap, .int .i64 c, .int .i64 d] 25)).alloc (.cells #[.slice ao' cs.length cap', .int .i64 c2, .int .i64 d2] 25))) := bl_al (bl_al (Below.refl _ _) _) _
  have S3 : Hid (Blk ((w.alloc (.cells #[.slice ao bs.length cap, .int .i64 c, .int .i64 d] 25)).alloc (.cells #[.slice ao' cs.length cap', .int .i64 c2, .int .i64 d2] 25)) w.heap.size 25 [.slice ao bs.length cap, .int .i64 c, .int .i64 d]) := Blk.below (heap_alloc_new w _) (bl_al (Below.refl _ _) _)
  have S4 : Hid (Blk ((w.alloc (.cells #[.slice ao bs.length cap, .int .i64 c, .int .i64 d] 25)).alloc (.cells #[.slice ao' cs.length cap', .int .i64 c2, .int .i64 d2] 25)) (w.heap.size + 1) 25 [.slice ao' cs.length cap', .int .i64 c2, .int .i64 d2]) := by
    have := heap_alloc_new (w.alloc (.cells #[.slice ao bs.length cap, .int .i64 c, .int .i64 d] 25)) (.cells #[.slice ao' cs.length cap', .int .i64 c2, .int .i64 d2] 25)
    simpa [Blk, Hid] using this
  by_cases hl1 : bs.length ≤ 30
  · have t1 : decide ((bs.length : Int) ≤ 30) = true := by simp; omega
    have T1 := Lib.hid t1
    clear t1
    by_cases hl2 : cs.length ≤ 30
    · have t2 : decide ((cs.length : Int) ≤ 30) = true := by simp; omega
      have T2 := Lib.hid t2
      have HLN := Lib.hid (And.intro (show bs.length ≤ 1000000 by omega) (show cs.length ≤ 1000000 by omega))
      clear t2 hl1 hl2
      obtain ⟨L, hL⟩ : ∃ L, postS bs c d cs c2 d2 other = L := ⟨_, rfl⟩
      have HL := Lib.hid hL
      have HS : Hid (selfP L) := by have := selfP_postS bs c d cs c2 d2 other; rw [hL] at this; exact this
      clear hL
      go_enter Try.func4, Try.ntmps4
      go_wp2_with fail
      refine (fewP_any _ bs c d true T1.out _ (HV.out.below SB.out)).mono ?_
      rintro _ w1 ⟨rfl, hb1⟩
      have q4 := S4.out.below hb1
      have x0 := q4.cell 0
      have x1 := q4.cell 1
      have x2 := q4.cell 2
      simp only [List.getElem?_cons_zero, List.getElem?_cons_succ] at x0 x1 x2
      have T3 := Lib.hid (S3.out.below hb1)
      have T4 := Lib.hid q4
      have TB := Lib.hid (bl_tr SB.out hb1)
      clear q4 hb1 S3 S4
      go_wp2_with fail
      refine (fewP_any _ cs c2 d2 true T2.out _ (HU.out.below TB.out)).mono ?_
      rintro _ w2 ⟨rfl, hb2⟩
      have UB := Lib.hid (bl_tr TB.out hb2)
      have hall : ∀ W, Below w2.heap.size w2 W → (W.cell? ⟨w.heap.size, 0, none⟩ = some (.slice ao bs.length cap) ∧ W.cell? ⟨w.heap.size, 1, none⟩ = some (.int .i64 c) ∧ W.cell? ⟨w.heap.size, 2, none⟩ = some (.int .i64 d)) ∧ (W.cell? ⟨w.heap.size + 1, 0, none⟩ = some (.slice ao' cs.length cap') ∧ W.cell? ⟨w.heap.size + 1, 1, none⟩ = some (.int .i64 c2) ∧ W.cell? ⟨w.heap.size + 1, 2, none⟩ = some (.int .i64 d2)) := fun W hW => by
        have U3 := (T3.out.below hb2).below hW
        have U4 := (T4.out.below hb2).below hW
        exact ⟨⟨U3.cell 0, U3.cell 1, U3.cell 2⟩, U4.cell 0, U4.cell 1, U4.cell 2⟩
      have HALL := Lib.hid hall
      have AV : Hid (∀ W, Below w2.heap.size w2 W → Sl .i64 W (.slice ao bs.length cap) bs) := fun W hW => HV.out.below (bl_tr UB.out hW)
      have AU : Hid (∀ W, Below w2.heap.size w2 W → Sl .i64 W (.slice ao' cs.length cap') cs) := fun W hW => HU.out.below (bl_tr UB.out hW)
      have hS0 := hall w2 (Below.refl _ _)
      have hSd := hall w2.drew (bl_dr (Below.refl _ _))
      have hbc0 : Below w2.heap.size w2 w2 := Below.refl _ _
      have hbcd : Below w2.heap.size w2 w2.drew := bl_dr (Below.refl _ _)
      clear hb2 hall x0 x1 x2 HV HU
      go_wp2_with fail
      go_region_held3 (fun w' => (w'.cell? ⟨w.heap.size, 0, none⟩ = some (.slice ao bs.length cap) ∧ w'.cell? ⟨w.heap.size, 1, none⟩ = some (.int .i64 c) ∧ w'.cell? ⟨w.heap.size, 2, none⟩ = some (.int .i64 d)) ∧ (w'.cell? ⟨w.heap.size + 1, 0, none⟩ = some (.slice ao' cs.length cap') ∧ w'.cell? ⟨w.heap.size + 1, 1, none⟩ = some (.int .i64 c2) ∧ w'.cell? ⟨w.heap.size + 1, 2, none⟩ = some (.int .i64 d2))) (first | assumption | exact hS0 | exact hSd)
        (first
          | (go_at_call 11; refine (awake11_any _).mono ?_; rintro e wN ⟨rfl, hbN⟩; have hbc : Below w2.heap.size w2 wN := (by first | exact bl_tr (by assumption) hbN | exact bl_tr (bl_dr (by assumption)) hbN); have hSN := HALL.out wN hbc; clear hbN)
          | (go_at_call 14; refine (postings_any _ _ bs cs c d c2 d2 other L HL HLN.out _ (AV.out _ (by assumption)) (AU.out _ (by assumption))).mono ?_; rintro e wN ⟨uA, rfl, huA, hbN⟩; have hbc : Below w2.heap.size w2 wN := (by first | exact bl_tr (by assumption) hbN | exact bl_tr (bl_dr (by assumption)) hbN); have hSN := HALL.out wN hbc; have AP : Hid (∀ W, Below wN.heap.size wN W → PoS W uA L) := (fun W hW => huA.below hW); have hrA : Below wN.heap.size wN wN := Below.refl _ _; clear huA)
          | (go_at_call 15; refine (refPostings_any _ _ bs cs c d c2 d2 other L HL _ (AV.out _ (by assumption)) (AU.out _ (by assumption))).mono ?_; rintro e wN ⟨uB, rfl, huB, hbN⟩; have hbc : Below w2.heap.size w2 wN := (by first | exact bl_tr (by assumption) hbN | exact bl_tr (bl_dr (by assumption)) hbN); have hSN := HALL.out wN hbc; have AR : Hid (∀ W, Below wN.heap.size wN W → PoS W uB L) := (fun W hW => huB.below hW); have hrB : Below wN.heap.size wN wN := Below.refl _ _; clear huB)
          | (go_at_call 13; refine (postings11_any _ _ L HS _ (AP.out _ (by first | assumption | exact bl_dr (by assumption) | exact bl_tr (bl_dr (Below.refl _ _)) (by assumption) | exact bl_dr (bl_tr (bl_dr (Below.refl _ _)) (by assumption)))) (AR.out _ (by first | assumption | exact bl_dr (by assumption) | exact bl_tr (bl_dr (Below.refl _ _)) (by assumption) | exact bl_dr (bl_tr (bl_dr (Below.refl _ _)) (by assumption))))).mono ?_; rintro e wN ⟨rfl, hbN⟩; have hbc : Below w2.heap.size w2 wN := (by first | exact bl_tr (by assumption) hbN | exact bl_tr (bl_dr (by assumption)) hbN); have hSN := HALL.out wN hbc; clear hbN))
      all_goals
        have HBN := Lib.hid hbc
        clear hbc
        go_wp2
        go_ret
        exact ⟨rfl, bl_tr UB.out HBN.out⟩
    · have t2 : decide ((cs.length : Int) ≤ 30) = false := by simp; omega
      have T2 := Lib.hid t2
      clear t2 hl1 hl2
      go_enter Try.func4, Try.ntmps4
      go_wp2_with fail
      refine (fewP_any _ bs c d true T1.out _ (HV.out.below SB.out)).mono ?_
      rintro _ w1 ⟨rfl, hb1⟩
      have q4 := S4.out.below hb1
      have x0 := q4.cell 0
      have x1 := q4.cell 1
      have x2 := q4.cell 2
      simp only [List.getElem?_cons_zero, List.getElem?_cons_succ] at x0 x1 x2
      have TB := Lib.hid (bl_tr SB.out hb1)
      clear q4 hb1 S3 S4
      go_wp2_with fail
      refine (fewP_any _ cs c2 d2 false T2.out _ (HU.out.below TB.out)).mono ?_
      rintro _ w2 ⟨rfl, hb2⟩
      have UB := Lib.hid (bl_tr TB.out hb2)
      clear hb2 x0 x1 x2
      go_wp2_with fail
      refine (awake11_any _).mono ?_
      rintro _ w3 ⟨rfl, hb3⟩
      go_wp2
      go_ret
      exact ⟨rfl, bl_tr UB.out hb3⟩
  · have t1 : decide ((bs.length : Int) ≤ 30) = false := by simp; omega
    have T1 := Lib.hid t1
    clear t1 hl1
    go_enter Try.func4, Try.ntmps4
    go_wp2_with fail
    refine (fewP_any _ bs c d false T1.out _ (HV.out.below SB.out)).mono ?_
    rintro _ w1 ⟨rfl, hb1⟩
    have UB := Lib.hid (bl_tr SB.out hb1)
    clear hb1 S3 S4
    go_wp2_with fail
    refine (awake11_any _).mono ?_
    rintro _ w3 ⟨rfl, hb3⟩
    go_wp2
    go_ret
    exact ⟨rfl, bl_tr UB.out hb3⟩
end Go.Proofs.Ytbiiejolemcifaa
