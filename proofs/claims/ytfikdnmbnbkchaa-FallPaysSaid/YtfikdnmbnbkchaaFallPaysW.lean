/- lombardlaw10.FallPays: both books pay alike; what came in stays. -/
import Derived.Test.YtfikdnmbnbkchaaFallPayY
import Derived.Test.YtfikdnmbnbkchaaRefPay
import Derived.Test.YtfikdnmbnbkchaaLaw10
import Derived.Test.YtfikdnmbnbkchaaOwnNew
namespace Go.Proofs.Ytfikdnmbnbkchaa
open Go.RowKit

theorem blk_new (w : World) (e : TypeId) (cur : List Value) : Blk (w.alloc (.cells cur.toArray e)) w.heap.size e cur := by
  show (w.heap.push _)[w.heap.size]? = _
  simp

set_option maxRecDepth 100000 in
set_option maxHeartbeats 800000 in
theorem fallPays_any (v u : Value) (bal rates : List Int) (credit due amount : Int) (w : World) (hv : Sl .i64 w v bal) (hu : Sl .i64 w u rates) :
    Calls Try.prog 8 #[.agg #[v, .int .i64 credit, .int .i64 due], u, .int .i64 amount] w (RetB (.bool true) w) := by
  have HV := Lib.hid hv
  have HU := Lib.hid hu
  obtain ⟨ao, cap, rfl, h1, ⟨h2, _⟩, h3⟩ := hv
  obtain ⟨ao', cap', rfl, h1', ⟨h2', _⟩, h3'⟩ := hu
  clear h3 h3'
  unfold maxLen at h2 h2'
  by_cases hn : bal.length ≤ 50
  · by_cases hk : rates.length ≤ 50
    · have d1 : decide ((50 : Int) < (bal.length : Int)) = false := by simp; omega
      have d2 : decide ((50 : Int) < (rates.length : Int)) = false := by simp; omega
      go_enter Try.func8, Try.ntmps8
      go_wp2_with fail
      have A0 : Blk ((w.alloc (.cells #[.slice ao bal.length cap, .int .i64 credit, .int .i64 due] 45)).alloc (.cells #[.slice ao bal.length cap, .int .i64 credit, .int .i64 due] 45)) w.heap.size 45 [.slice ao bal.length cap, .int .i64 credit, .int .i64 due] := (blk_new w _ _).below (bl_al (Below.refl _ _) _)
      have A1 : Blk ((w.alloc (.cells #[.slice ao bal.length cap, .int .i64 credit, .int .i64 due] 45)).alloc (.cells #[.slice ao bal.length cap, .int .i64 credit, .int .i64 due] 45)) (w.heap.size + 1) 45 [.slice ao bal.length cap, .int .i64 credit, .int .i64 due] := by
        have h := blk_new (w.alloc (.cells #[.slice ao bal.length cap, .int .i64 credit, .int .i64 due] 45)) 45 [.slice ao bal.length cap, .int .i64 credit, .int .i64 due]
        rwa [World.size_alloc] at h
      have b0 : Below w.heap.size w ((w.alloc (.cells #[.slice ao bal.length cap, .int .i64 credit, .int .i64 due] 45)).alloc (.cells #[.slice ao bal.length cap, .int .i64 credit, .int .i64 due] 45)) := (by repeat (first | exact Below.refl _ _ | refine bl_al ?_ _ | refine bl_dr ?_ | refine bl_dN ?_ _ | refine bl_tr ?_ (by assumption)))
      have z0 : ((w.alloc (.cells #[.slice ao bal.length cap, .int .i64 credit, .int .i64 due] 45)).alloc (.cells #[.slice ao bal.length cap, .int .i64 credit, .int .i64 due] 45)).heap.size = w.heap.size + 2 := by simp only [World.size_alloc]
      generalize ((w.alloc (.cells #[.slice ao bal.length cap, .int .i64 credit, .int .i64 due] 45)).alloc (.cells #[.slice ao bal.length cap, .int .i64 credit, .int .i64 due] 45)) = W0 at A0 A1 b0 z0 ⊢
      refine (own64_new _ bal 71 _ (HV.out.below b0) (by omega)).mono ?_
      rintro e w1 ⟨rfl, B1, hb1⟩
      rw [z0] at B1 ⊢
      have A0' := A0.below hb1
      have A1' := A1.below hb1
      have c10 := A1'.cell 0
      have f10 := A1'.frozen 0
      simp only [List.getElem?_cons_zero] at c10
      have N0 := Lib.hid (A0'.setOther (g' := w.heap.size + 1) (by omega) 0 (.slice (some ⟨w.heap.size + 2, 0, none⟩) bal.length (bal.length + 3)))
      have N1 := Lib.hid (A1'.set 0 (.slice (some ⟨w.heap.size + 2, 0, none⟩) bal.length (bal.length + 3)))
      have N2 := Lib.hid (B1.setOther (g' := w.heap.size + 1) (by omega) 0 (.slice (some ⟨w.heap.size + 2, 0, none⟩) bal.length (bal.length + 3)))
      have hb1' : Below w.heap.size w (w1.setCell ⟨w.heap.size + 1, 0, none⟩ (.slice (some ⟨w.heap.size + 2, 0, none⟩) bal.length (bal.length + 3))) := (bl_tr b0 hb1).setCell (by show w.heap.size ≤ w.heap.size + 1; omega) _
      clear A0 A1 A0' A1' B1 z0
      go_wp2_with fail
      generalize (w1.setCell ⟨w.heap.size + 1, 0, none⟩ (.slice (some ⟨w.heap.size + 2, 0, none⟩) bal.length (bal.length + 3))) = W1 at N0 N1 N2 hb1' ⊢
      clear c10 f10 hb1 b0
      refine (own64_any _ rates 71 _ (HU.out.below hb1') (by omega)).mono ?_
      rintro e w2 ⟨u2, rfl, hs2, hb2⟩
      have M0 := N0.out.below hb2
      have M1 := N1.out.below hb2
      simp only [List.set_cons_zero] at M1
      have x0 := M0.cell 0
      have x1 := M0.cell 1
      have x2 := M0.cell 2
      have y0 := M1.cell 0
      have y1 := M1.cell 1
      have y2 := M1.cell 2
      simp at x0 x1 x2 y0 y1 y2
      have S1 := Lib.hid (blk_sp (N2.out.below hb2) (by omega))
      have S2 := Lib.hid hs2
      have HW2 := Lib.hid (bl_tr hb1' hb2)
      have K0 := Lib.hid M0
      have K1 := Lib.hid M1
      clear N0 N1 N2 M0 M1 hb2 hb1' hs2
      go_wp2_with fail
      clear x0 x1 x2 y0 y1 y2
      obtain ⟨⟨L, P, A, E⟩, hr⟩ : ∃ r, Hid (payR bal credit due rates amount = r) := ⟨_, Lib.hid rfl⟩
      refine (fallPay_any _ _ bal rates credit due amount _ hr _ S1.out.sl S2.out.sl (by omega)).mono ?_
      rintro e w3 ⟨u3, rfl, hs3, hb3⟩
      simp only at hs3 ⊢
      have M0 := K0.out.below hb3
      have x0 := M0.cell 0
      have x1 := M0.cell 1
      have x2 := M0.cell 2
      simp at x0 x1 x2
      clear M0
      go_wp2_with fail
      clear x0 x1 x2
      refine (refPay_any _ _ bal rates credit due amount _ hr _ (HV.out.below (bl_tr HW2.out hb3)) (HU.out.below (bl_tr HW2.out hb3)) (by omega)).mono ?_
      rintro e w4 ⟨u4, rfl, hs4, hb4⟩
      simp only at hs4 ⊢
      go_wp2_with fail
      refine (awake10_any _).mono ?_
      rintro e w5 ⟨rfl, hb5⟩
      go_wp2_with fail
      refine (plain64_any _ _ L L true (Lib.hid (beq_self_eq_true _)) _ (hs3.below (by repeat (first | exact Below.refl _ _ | refine bl_al ?_ _ | refine bl_dr ?_ | refine bl_dN ?_ _ | refine bl_tr ?_ (by assumption)))) (hs4.below (by repeat (first | exact Below.refl _ _ | refine bl_al ?_ _ | refine bl_dr ?_ | refine bl_dN ?_ _ | refine bl_tr ?_ (by assumption))))).mono ?_
      rintro e w6 ⟨rfl, hb6⟩
      have hb26 : Below w2.heap.size w2 w6 := (by repeat (first | exact Below.refl _ _ | refine bl_al ?_ _ | refine bl_dr ?_ | refine bl_dN ?_ _ | refine bl_tr ?_ (by assumption)))
      have x0 := (K0.out.below hb26).cell 0
      have y0 := (K1.out.below hb26).cell 0
      simp at x0 y0
      have q1 : (A == A) = true := beq_self_eq_true _
      have q2 : (E == E) = true := beq_self_eq_true _
      have q3 : (P == P) = true := beq_self_eq_true _
      go_wp2_with fail
      refine (kept64_true _ _ bal 71 _ (S1.out.below (by repeat (first | exact Below.refl _ _ | refine bl_al ?_ _ | refine bl_dr ?_ | refine bl_dN ?_ _ | refine bl_tr ?_ (by assumption)))) (HV.out.below (bl_tr HW2.out (by repeat (first | exact Below.refl _ _ | refine bl_al ?_ _ | refine bl_dr ?_ | refine bl_dN ?_ _ | refine bl_tr ?_ (by assumption))))) (by omega)).mono ?_
      rintro e w7 ⟨rfl, hb7⟩
      go_wp2_with fail
      refine (kept64_true _ _ rates 71 _ (S2.out.below (by repeat (first | exact Below.refl _ _ | refine bl_al ?_ _ | refine bl_dr ?_ | refine bl_dN ?_ _ | refine bl_tr ?_ (by assumption)))) (HU.out.below (bl_tr HW2.out (by repeat (first | exact Below.refl _ _ | refine bl_al ?_ _ | refine bl_dr ?_ | refine bl_dN ?_ _ | refine bl_tr ?_ (by assumption))))) (by omega)).mono ?_
      rintro e w8 ⟨rfl, hb8⟩
      go_wp2_with fail
      go_ret
      exact ⟨rfl, bl_tr HW2.out (by repeat (first | exact Below.refl _ _ | refine bl_al ?_ _ | refine bl_dr ?_ | refine bl_dN ?_ _ | refine bl_tr ?_ (by assumption)))⟩
    · have d1 : decide ((50 : Int) < (bal.length : Int)) = false := by simp; omega
      have d2 : decide ((50 : Int) < (rates.length : Int)) = true := by simp; omega
      go_enter Try.func8, Try.ntmps8
      go_wp2_with fail
      refine (awake10_any _).mono ?_
      rintro e w5 ⟨rfl, hb5⟩
      go_wp2_with fail
      go_ret
      exact ⟨rfl, (by repeat (first | exact Below.refl _ _ | refine bl_al ?_ _ | refine bl_dr ?_ | refine bl_dN ?_ _ | refine bl_tr ?_ (by assumption)))⟩
  · have d1 : decide ((50 : Int) < (bal.length : Int)) = true := by simp; omega
    go_enter Try.func8, Try.ntmps8
    go_wp2_with fail
    refine (awake10_any _).mono ?_
    rintro e w5 ⟨rfl, hb5⟩
    go_wp2_with fail
    go_ret
    exact ⟨rfl, (by repeat (first | exact Below.refl _ _ | refine bl_al ?_ _ | refine bl_dr ?_ | refine bl_dN ?_ _ | refine bl_tr ?_ (by assumption)))⟩
end Go.Proofs.Ytfikdnmbnbkchaa
