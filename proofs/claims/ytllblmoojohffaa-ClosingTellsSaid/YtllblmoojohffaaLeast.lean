/- least.Of, lombardref15.Of: the least that is due. -/
import Derived.Test.YtllblmoojohffaaShare
import Derived.Test.YtllblmoojohffaaTermsRight
import Derived.Test.YtllblmoojohffaaRefRight
namespace Go.Proofs.Ytllblmoojohffaa
open Go.RowKit EvM

/-- The least that is due of a total, and why not. -/
def leastR (rt : Bool) (minf minp total : Int) : Int × Int :=
  if rt = false then (0, 6) else if total < 0 ∨ 1000000000000000 < total then (0, 5) else (min total (max minf (shareR total minp 1000).1), 0)
theorem leastR_terms {minf minp total x e : Int} (h : leastR false minf minp total = (x, e)) : x = 0 ∧ e = 6 := by
  unfold leastR at h
  rw [if_pos rfl] at h
  injection h with h1 h2
  exact ⟨h1.symm, h2.symm⟩
theorem leastR_range {minf minp total x e : Int} (h : leastR true minf minp total = (x, e)) (hc : total < 0 ∨ 1000000000000000 < total) : x = 0 ∧ e = 5 := by
  unfold leastR at h
  rw [if_neg (by simp), if_pos hc] at h
  injection h with h1 h2
  exact ⟨h1.symm, h2.symm⟩
theorem leastR_fine {minf minp total x e : Int} (h : leastR true minf minp total = (x, e)) (hA : ¬ total < 0) (hB : ¬ 1000000000000000 < total) (hm : 0 ≤ minp ∧ minp ≤ 1000) : ∃ p, shareR total minp 1000 = (p, 0) ∧ x = min total (max minf p) ∧ e = 0 := by
  obtain ⟨p, hp, _⟩ := share_neg total minp 1000 (by omega) (by omega) (by omega) (mayM_iff.2 (by omega))
  unfold leastR at h
  rw [if_neg (by simp), if_neg (by omega), hp] at h
  injection h with h1 h2
  exact ⟨p, hp, h1.symm, h2.symm⟩
theorem rightT_minp {lim : Int} {ts : List (Int × Bool)} {cyc dued minf minp start : Int} (h : rightT lim ts cyc dued minf minp start = true) : 0 ≤ minp ∧ minp ≤ 1000 := by
  simp only [rightT, Bool.and_eq_true] at h
  exact betw_iff.1 h.1.2

set_option maxHeartbeats 800000 in
set_option maxRecDepth 100000 in
theorem least_any (v : Value) (ts : List (Int × Bool)) (lim cyc dued minf minp start total x e : Int) (h : Hid (leastR (rightT lim ts cyc dued minf minp start) minf minp total = (x, e))) (w : World) (hv : TrS w v ts) :
    Calls Try.prog 18 #[.agg #[.int .i64 lim, v, .int .i64 cyc, .int .i64 dued, .int .i64 minf, .int .i64 minp, .int .i64 start], .int .i64 total] w (RetB (.tuple #[.int .i64 x, .int .i64 e]) w) := by
  have HV := Lib.hid hv
  obtain ⟨ao, cap, rfl, h1, ⟨h2, _⟩, h3⟩ := hv
  clear h3
  unfold maxLen at h2
  have hT := TB.new w 34 lim (.slice ao ts.length cap) cyc dued minf minp start
  have hb0 : Below w.heap.size w (w.alloc (.cells #[.int .i64 lim, .slice ao ts.length cap, .int .i64 cyc, .int .i64 dued, .int .i64 minf, .int .i64 minp, .int .i64 start] 34)) := bl_al (Below.refl _ _) _
  obtain ⟨t0, t1, t2, t3, t4, t5, t6⟩ := hT
  have HTB := Lib.hid (TB.new w 34 lim (.slice ao ts.length cap) cyc dued minf minp start)
  cases hr : rightT lim ts cyc dued minf minp start with
  | false =>
    have HX : Hid (x = 0) := (leastR_terms (by rw [← hr]; exact h.out)).1
    obtain rfl : 6 = e := (leastR_terms (by rw [← hr]; exact h.out)).2.symm
    have HR : Hid ((if rightT lim ts cyc dued minf minp start = true then 0 else 6) = (6 : Int)) := by show _ = _; rw [hr]; rfl
    clear h hr
    go_enter Try.func18, Try.ntmps18
    go_wp2
    refine wp_scope_back 0 (fun a' w' => ∃ (u0 u1 u2 u3 u4 u5 u6 u7 u9 u10 u11 u12 u13 u14 u15 u16 u17 u18 u19 u20 u21 u22 u23 u24 u25 u26 u27 u28 u29 u30 u31 u32 u33 u34 u35 : Value), a' = { tmps := #[u0, u1, u2, u3, u4, u5, u6, u7, .int .i64 6, u9, u10, u11, u12, u13, u14, u15, u16, u17, u18, u19, u20, u21, u22, u23, u24, u25, u26, u27, u28, u29, u30, u31, u32, u33, u34, u35], defers := [] } ∧ Hid (x = 0) ∧ Below w.heap.size w w')
      (fun _ _ => 0) rfl ?pass ?first
    case pass =>
      intro a1 w1 hJ J' hJ'
      clear hJ'
      obtain ⟨u0, hJ⟩ := hJ
      obtain ⟨u1, hJ⟩ := hJ
      obtain ⟨u2, hJ⟩ := hJ
      obtain ⟨u3, hJ⟩ := hJ
      obtain ⟨u4, hJ⟩ := hJ
      obtain ⟨u5, hJ⟩ := hJ
      obtain ⟨u6, hJ⟩ := hJ
      obtain ⟨u7, hJ⟩ := hJ
      obtain ⟨u9, hJ⟩ := hJ
      obtain ⟨u10, hJ⟩ := hJ
      obtain ⟨u11, hJ⟩ := hJ
      obtain ⟨u12, hJ⟩ := hJ
      obtain ⟨u13, hJ⟩ := hJ
      obtain ⟨u14, hJ⟩ := hJ
      obtain ⟨u15, hJ⟩ := hJ
      obtain ⟨u16, hJ⟩ := hJ
      obtain ⟨u17, hJ⟩ := hJ
      obtain ⟨u18, hJ⟩ := hJ
      obtain ⟨u19, hJ⟩ := hJ
      obtain ⟨u20, hJ⟩ := hJ
      obtain ⟨u21, hJ⟩ := hJ
      obtain ⟨u22, hJ⟩ := hJ
      obtain ⟨u23, hJ⟩ := hJ
      obtain ⟨u24, hJ⟩ := hJ
      obtain ⟨u25, hJ⟩ := hJ
      obtain ⟨u26, hJ⟩ := hJ
      obtain ⟨u27, hJ⟩ := hJ
      obtain ⟨u28, hJ⟩ := hJ
      obtain ⟨u29, hJ⟩ := hJ
      obtain ⟨u30, hJ⟩ := hJ
      obtain ⟨u31, hJ⟩ := hJ
      obtain ⟨u32, hJ⟩ := hJ
      obtain ⟨u33, hJ⟩ := hJ
      obtain ⟨u34, hJ⟩ := hJ
      obtain ⟨u35, hJ⟩ := hJ
      obtain ⟨rfl, hqb, hb⟩ := hJ
      go_wp2
      simp only [Exit.jump]
      go_ret2
      rw [hqb.out]
      exact ⟨rfl, hb⟩
    case first =>
      intro J' hJJ hrest
      have HJ := Lib.hid hJJ
      clear hJJ hrest
      go_wp2_with fail
      refine (termsRight_any _ ts lim cyc dued minf minp start _ HR _ (HV.out.below hb0)).mono ?_
      rintro _ w1 ⟨rfl, hb1⟩
      obtain ⟨t0, t1, t2, t3, t4, t5, t6⟩ := HTB.out.below hb1
      go_wp2
      go_step3
      exact ⟨rfl, HJ.out _ _ ⟨_, _, _, _, _, _, _, _, _, _, _, _, _, _, _, _, _, _, _, _, _, _, _, _, _, _, _, _, _, _, _, _, _, _, _, rfl, HX, (by repeat (first | with_reducible exact Below.refl _ _ | (with_reducible refine bl_sc ?_ ?hge; case hge => (first | exact Nat.le_refl _ | omega)) | with_reducible refine bl_al ?_ _ | with_reducible refine bl_dr ?_ | with_reducible refine bl_dN ?_ _ | (refine bl_tr ?_ (by assumption)) | (refine bl_gr ?_ (by assumption) (by first | exact Nat.le_refl _ | omega)) | exact Below.refl _ _ | refine bl_al ?_ _ | refine bl_dr ?_ | refine bl_dN ?_ _))⟩⟩

  | true =>
    have HR : Hid ((if rightT lim ts cyc dued minf minp start = true then 0 else 6) = (0 : Int)) := by show _ = _; rw [hr]; rfl
    have hmp := rightT_minp hr
    rw [hr] at h
    clear hr
    by_cases hA : total < 0
    · have HX : Hid (x = 0) := (leastR_range h.out (Or.inl hA)).1
      obtain rfl : 5 = e := (leastR_range h.out (Or.inl hA)).2.symm
      clear h
      go_enter Try.func18, Try.ntmps18
      go_wp2
      refine wp_scope_back 0 (fun a' w' => ∃ (u0 u1 u2 u3 u4 u5 u6 u7 u9 u10 u11 u12 u13 u14 u15 u16 u17 u18 u19 u20 u21 u22 u23 u24 u25 u26 u27 u28 u29 u30 u31 u32 u33 u34 u35 : Value), a' = { tmps := #[u0, u1, u2, u3, u4, u5, u6, u7, .int .i64 5, u9, u10, u11, u12, u13, u14, u15, u16, u17, u18, u19, u20, u21, u22, u23, u24, u25, u26, u27, u28, u29, u30, u31, u32, u33, u34, u35], defers := [] } ∧ Hid (x = 0) ∧ Below w.heap.size w w')
        (fun _ _ => 0) rfl ?pass ?first
      case pass =>
        intro a1 w1 hJ J' hJ'
        clear hJ'
        obtain ⟨u0, hJ⟩ := hJ
        obtain ⟨u1, hJ⟩ := hJ
        obtain ⟨u2, hJ⟩ := hJ
        obtain ⟨u3, hJ⟩ := hJ
        obtain ⟨u4, hJ⟩ := hJ
        obtain ⟨u5, hJ⟩ := hJ
        obtain ⟨u6, hJ⟩ := hJ
        obtain ⟨u7, hJ⟩ := hJ
        obtain ⟨u9, hJ⟩ := hJ
        obtain ⟨u10, hJ⟩ := hJ
        obtain ⟨u11, hJ⟩ := hJ
        obtain ⟨u12, hJ⟩ := hJ
        obtain ⟨u13, hJ⟩ := hJ
        obtain ⟨u14, hJ⟩ := hJ
        obtain ⟨u15, hJ⟩ := hJ
        obtain ⟨u16, hJ⟩ := hJ
        obtain ⟨u17, hJ⟩ := hJ
        obtain ⟨u18, hJ⟩ := hJ
        obtain ⟨u19, hJ⟩ := hJ
        obtain ⟨u20, hJ⟩ := hJ
        obtain ⟨u21, hJ⟩ := hJ
        obtain ⟨u22, hJ⟩ := hJ
        obtain ⟨u23, hJ⟩ := hJ
        obtain ⟨u24, hJ⟩ := hJ
        obtain ⟨u25, hJ⟩ := hJ
        obtain ⟨u26, hJ⟩ := hJ
        obtain ⟨u27, hJ⟩ := hJ
        obtain ⟨u28, hJ⟩ := hJ
        obtain ⟨u29, hJ⟩ := hJ
        obtain ⟨u30, hJ⟩ := hJ
        obtain ⟨u31, hJ⟩ := hJ
        obtain ⟨u32, hJ⟩ := hJ
        obtain ⟨u33, hJ⟩ := hJ
        obtain ⟨u34, hJ⟩ := hJ
        obtain ⟨u35, hJ⟩ := hJ
        obtain ⟨rfl, hqb, hb⟩ := hJ
        go_wp2
        simp only [Exit.jump]
        go_ret2
        rw [hqb.out]
        exact ⟨rfl, hb⟩
      case first =>
        intro J' hJJ hrest
        have HJ := Lib.hid hJJ
        clear hJJ hrest
        go_wp2_with fail
        refine (termsRight_any _ ts lim cyc dued minf minp start _ HR _ (HV.out.below hb0)).mono ?_
        rintro _ w1 ⟨rfl, hb1⟩
        obtain ⟨t0, t1, t2, t3, t4, t5, t6⟩ := HTB.out.below hb1
        go_wp2
        go_step3
        exact ⟨rfl, HJ.out _ _ ⟨_, _, _, _, _, _, _, _, _, _, _, _, _, _, _, _, _, _, _, _, _, _, _, _, _, _, _, _, _, _, _, _, _, _, _, rfl, HX, (by repeat (first | with_reducible exact Below.refl _ _ | (with_reducible refine bl_sc ?_ ?hge; case hge => (first | exact Nat.le_refl _ | omega)) | with_reducible refine bl_al ?_ _ | with_reducible refine bl_dr ?_ | with_reducible refine bl_dN ?_ _ | (refine bl_tr ?_ (by assumption)) | (refine bl_gr ?_ (by assumption) (by first | exact Nat.le_refl _ | omega)) | exact Below.refl _ _ | refine bl_al ?_ _ | refine bl_dr ?_ | refine bl_dN ?_ _))⟩⟩

    · by_cases hB : 1000000000000000 < total
      · have HX : Hid (x = 0) := (leastR_range h.out (Or.inr hB)).1
        obtain rfl : 5 = e := (leastR_range h.out (Or.inr hB)).2.symm
        clear h
        go_enter Try.func18, Try.ntmps18
        go_wp2
        refine wp_scope_back 0 (fun a' w' => ∃ (u0 u1 u2 u3 u4 u5 u6 u7 u9 u10 u11 u12 u13 u14 u15 u16 u17 u18 u19 u20 u21 u22 u23 u24 u25 u26 u27 u28 u29 u30 u31 u32 u33 u34 u35 : Value), a' = { tmps := #[u0, u1, u2, u3, u4, u5, u6, u7, .int .i64 5, u9, u10, u11, u12, u13, u14, u15, u16, u17, u18, u19, u20, u21, u22, u23, u24, u25, u26, u27, u28, u29, u30, u31, u32, u33, u34, u35], defers := [] } ∧ Hid (x = 0) ∧ Below w.heap.size w w')
          (fun _ _ => 0) rfl ?pass ?first
        case pass =>
          intro a1 w1 hJ J' hJ'
          clear hJ'
          obtain ⟨u0, hJ⟩ := hJ
          obtain ⟨u1, hJ⟩ := hJ
          obtain ⟨u2, hJ⟩ := hJ
          obtain ⟨u3, hJ⟩ := hJ
          obtain ⟨u4, hJ⟩ := hJ
          obtain ⟨u5, hJ⟩ := hJ
          obtain ⟨u6, hJ⟩ := hJ
          obtain ⟨u7, hJ⟩ := hJ
          obtain ⟨u9, hJ⟩ := hJ
          obtain ⟨u10, hJ⟩ := hJ
          obtain ⟨u11, hJ⟩ := hJ
          obtain ⟨u12, hJ⟩ := hJ
          obtain ⟨u13, hJ⟩ := hJ
          obtain ⟨u14, hJ⟩ := hJ
          obtain ⟨u15, hJ⟩ := hJ
          obtain ⟨u16, hJ⟩ := hJ
          obtain ⟨u17, hJ⟩ := hJ
          obtain ⟨u18, hJ⟩ := hJ
          obtain ⟨u19, hJ⟩ := hJ
          obtain ⟨u20, hJ⟩ := hJ
          obtain ⟨u21, hJ⟩ := hJ
          obtain ⟨u22, hJ⟩ := hJ
          obtain ⟨u23, hJ⟩ := hJ
          obtain ⟨u24, hJ⟩ := hJ
          obtain ⟨u25, hJ⟩ := hJ
          obtain ⟨u26, hJ⟩ := hJ
          obtain ⟨u27, hJ⟩ := hJ
          obtain ⟨u28, hJ⟩ := hJ
          obtain ⟨u29, hJ⟩ := hJ
          obtain ⟨u30, hJ⟩ := hJ
          obtain ⟨u31, hJ⟩ := hJ
          obtain ⟨u32, hJ⟩ := hJ
          obtain ⟨u33, hJ⟩ := hJ
          obtain ⟨u34, hJ⟩ := hJ
          obtain ⟨u35, hJ⟩ := hJ
          obtain ⟨rfl, hqb, hb⟩ := hJ
          go_wp2
          simp only [Exit.jump]
          go_ret2
          rw [hqb.out]
          exact ⟨rfl, hb⟩
        case first =>
          intro J' hJJ hrest
          have HJ := Lib.hid hJJ
          clear hJJ hrest
          go_wp2_with fail
          refine (termsRight_any _ ts lim cyc dued minf minp start _ HR _ (HV.out.below hb0)).mono ?_
          rintro _ w1 ⟨rfl, hb1⟩
          obtain ⟨t0, t1, t2, t3, t4, t5, t6⟩ := HTB.out.below hb1
          go_wp2
          go_step3
          exact ⟨rfl, HJ.out _ _ ⟨_, _, _, _, _, _, _, _, _, _, _, _, _, _, _, _, _, _, _, _, _, _, _, _, _, _, _, _, _, _, _, _, _, _, _, rfl, HX, (by repeat (first | with_reducible exact Below.refl _ _ | (with_reducible refine bl_sc ?_ ?hge; case hge => (first | exact Nat.le_refl _ | omega)) | with_reducible refine bl_al ?_ _ | with_reducible refine bl_dr ?_ | with_reducible refine bl_dN ?_ _ | (refine bl_tr ?_ (by assumption)) | (refine bl_gr ?_ (by assumption) (by first | exact Nat.le_refl _ | omega)) | exact Below.refl _ _ | refine bl_al ?_ _ | refine bl_dr ?_ | refine bl_dN ?_ _))⟩⟩

      · obtain ⟨p, hp, hx, he⟩ := leastR_fine h.out hA hB hmp
        obtain rfl : 0 = e := he.symm
        have HX := Lib.hid hx
        have HP := Lib.hid hp
        have HMP : Hid (-9223372036854775808 ≤ minp ∧ minp < 9223372036854775808) := ⟨by omega, by omega⟩
        clear h hx hp he hmp
        go_enter Try.func18, Try.ntmps18
        go_wp2
        refine wp_scope_back 0 (fun a' w' => ∃ (u0 u1 u2 u3 u4 u5 u6 u7 u9 u10 u11 u12 u13 u14 u15 u16 u17 u18 u19 u20 u21 u22 u23 u24 u25 u26 u27 u28 u29 u30 u31 u32 u33 u34 u35 : Value), a' = { tmps := #[u0, u1, u2, u3, u4, u5, u6, u7, .int .i64 0, u9, u10, u11, u12, u13, u14, u15, u16, u17, u18, u19, u20, u21, u22, u23, u24, u25, u26, u27, u28, u29, u30, u31, u32, u33, u34, u35], defers := [] } ∧ Hid (x = 0) ∧ Below w.heap.size w w')
          (fun _ _ => 0) rfl ?pass ?first
        case pass =>
          intro a1 w1 hJ J' hJ'
          clear hJ'
          obtain ⟨u0, hJ⟩ := hJ
          obtain ⟨u1, hJ⟩ := hJ
          obtain ⟨u2, hJ⟩ := hJ
          obtain ⟨u3, hJ⟩ := hJ
          obtain ⟨u4, hJ⟩ := hJ
          obtain ⟨u5, hJ⟩ := hJ
          obtain ⟨u6, hJ⟩ := hJ
          obtain ⟨u7, hJ⟩ := hJ
          obtain ⟨u9, hJ⟩ := hJ
          obtain ⟨u10, hJ⟩ := hJ
          obtain ⟨u11, hJ⟩ := hJ
          obtain ⟨u12, hJ⟩ := hJ
          obtain ⟨u13, hJ⟩ := hJ
          obtain ⟨u14, hJ⟩ := hJ
          obtain ⟨u15, hJ⟩ := hJ
          obtain ⟨u16, hJ⟩ := hJ
          obtain ⟨u17, hJ⟩ := hJ
          obtain ⟨u18, hJ⟩ := hJ
          obtain ⟨u19, hJ⟩ := hJ
          obtain ⟨u20, hJ⟩ := hJ
          obtain ⟨u21, hJ⟩ := hJ
          obtain ⟨u22, hJ⟩ := hJ
          obtain ⟨u23, hJ⟩ := hJ
          obtain ⟨u24, hJ⟩ := hJ
          obtain ⟨u25, hJ⟩ := hJ
          obtain ⟨u26, hJ⟩ := hJ
          obtain ⟨u27, hJ⟩ := hJ
          obtain ⟨u28, hJ⟩ := hJ
          obtain ⟨u29, hJ⟩ := hJ
          obtain ⟨u30, hJ⟩ := hJ
          obtain ⟨u31, hJ⟩ := hJ
          obtain ⟨u32, hJ⟩ := hJ
          obtain ⟨u33, hJ⟩ := hJ
          obtain ⟨u34, hJ⟩ := hJ
          obtain ⟨u35, hJ⟩ := hJ
          obtain ⟨rfl, hqb, hb⟩ := hJ
          go_wp2
          simp only [Exit.jump]
          go_ret2
          rw [hqb.out]
          exact ⟨rfl, hb⟩
        case first =>
          intro J' hJJ hrest
          have HJ := Lib.hid hJJ
          clear hJJ hrest
          go_wp2_with fail
          refine (termsRight_any _ ts lim cyc dued minf minp start _ HR _ (HV.out.below hb0)).mono ?_
          rintro _ w1 ⟨rfl, hb1⟩
          obtain ⟨t0, t1, t2, t3, t4, t5, t6⟩ := HTB.out.below hb1
          go_wp2_with fail
          refine (share_any total minp 1000 p 0 HMP.out ⟨by decide, by decide⟩ HP _).mono ?_
          rintro _ w2 ⟨rfl, hb2⟩
          obtain ⟨t0, t1, t2, t3, t4, t5, t6⟩ := (HTB.out.below hb1).below hb2
          go_wp2
          simp only [Exit.jump]
          go_ret2
          rw [HX.out]
          exact ⟨rfl, (by repeat (first | with_reducible exact Below.refl _ _ | (with_reducible refine bl_sc ?_ ?hge; case hge => (first | exact Nat.le_refl _ | omega)) | with_reducible refine bl_al ?_ _ | with_reducible refine bl_dr ?_ | with_reducible refine bl_dN ?_ _ | (refine bl_tr ?_ (by assumption)) | (refine bl_gr ?_ (by assumption) (by first | exact Nat.le_refl _ | omega)) | exact Below.refl _ _ | refine bl_al ?_ _ | refine bl_dr ?_ | refine bl_dN ?_ _))⟩


set_option maxHeartbeats 800000 in
set_option maxRecDepth 100000 in
theorem refLeast_any (v : Value) (ts : List (Int × Bool)) (lim cyc dued minf minp start total x e : Int) (h : Hid (leastR (rightT lim ts cyc dued minf minp start) minf minp total = (x, e))) (w : World) (hv : TrS w v ts) :
    Calls Try.prog 19 #[.agg #[.int .i64 lim, v, .int .i64 cyc, .int .i64 dued, .int .i64 minf, .int .i64 minp, .int .i64 start], .int .i64 total] w (RetB (.tuple #[.int .i64 x, .int .i64 e]) w) := by
  have HV := Lib.hid hv
  obtain ⟨ao, cap, rfl, h1, ⟨h2, _⟩, h3⟩ := hv
  clear h3
  unfold maxLen at h2
  have hT := TB.new w 34 lim (.slice ao ts.length cap) cyc dued minf minp start
  have hb0 : Below w.heap.size w (w.alloc (.cells #[.int .i64 lim, .slice ao ts.length cap, .int .i64 cyc, .int .i64 dued, .int .i64 minf, .int .i64 minp, .int .i64 start] 34)) := bl_al (Below.refl _ _) _
  obtain ⟨t0, t1, t2, t3, t4, t5, t6⟩ := hT
  have HTB := Lib.hid (TB.new w 34 lim (.slice ao ts.length cap) cyc dued minf minp start)
  cases hr : rightT lim ts cyc dued minf minp start with
  | false =>
    have HX : Hid (x = 0) := (leastR_terms (by rw [← hr]; exact h.out)).1
    obtain rfl : 6 = e := (leastR_terms (by rw [← hr]; exact h.out)).2.symm
    have HR : Hid ((if rightT lim ts cyc dued minf minp start = true then 0 else 6) = (6 : Int)) := by show _ = _; rw [hr]; rfl
    clear h hr
    go_enter Try.func19, Try.ntmps19
    go_wp2_with fail
    refine (refRight_any _ ts lim cyc dued minf minp start _ HR _ (HV.out.below hb0)).mono ?_
    rintro _ w1 ⟨rfl, hb1⟩
    obtain ⟨t0, t1, t2, t3, t4, t5, t6⟩ := HTB.out.below hb1
    go_wp2
    go_ret2
    rw [HX.out]
    exact ⟨rfl, (by repeat (first | with_reducible exact Below.refl _ _ | (with_reducible refine bl_sc ?_ ?hge; case hge => (first | exact Nat.le_refl _ | omega)) | with_reducible refine bl_al ?_ _ | with_reducible refine bl_dr ?_ | with_reducible refine bl_dN ?_ _ | (refine bl_tr ?_ (by assumption)) | (refine bl_gr ?_ (by assumption) (by first | exact Nat.le_refl _ | omega)) | exact Below.refl _ _ | refine bl_al ?_ _ | refine bl_dr ?_ | refine bl_dN ?_ _))⟩

  | true =>
    have HR : Hid ((if rightT lim ts cyc dued minf minp start = true then 0 else 6) = (0 : Int)) := by show _ = _; rw [hr]; rfl
    have hmp := rightT_minp hr
    rw [hr] at h
    clear hr
    by_cases hA : total < 0
    · have HX : Hid (x = 0) := (leastR_range h.out (Or.inl hA)).1
      obtain rfl : 5 = e := (leastR_range h.out (Or.inl hA)).2.symm
      clear h
      go_enter Try.func19, Try.ntmps19
      go_wp2_with fail
      refine (refRight_any _ ts lim cyc dued minf minp start _ HR _ (HV.out.below hb0)).mono ?_
      rintro _ w1 ⟨rfl, hb1⟩
      obtain ⟨t0, t1, t2, t3, t4, t5, t6⟩ := HTB.out.below hb1
      go_wp2
      go_ret2
      rw [HX.out]
      exact ⟨rfl, (by repeat (first | with_reducible exact Below.refl _ _ | (with_reducible refine bl_sc ?_ ?hge; case hge => (first | exact Nat.le_refl _ | omega)) | with_reducible refine bl_al ?_ _ | with_reducible refine bl_dr ?_ | with_reducible refine bl_dN ?_ _ | (refine bl_tr ?_ (by assumption)) | (refine bl_gr ?_ (by assumption) (by first | exact Nat.le_refl _ | omega)) | exact Below.refl _ _ | refine bl_al ?_ _ | refine bl_dr ?_ | refine bl_dN ?_ _))⟩

    · by_cases hB : 1000000000000000 < total
      · have HX : Hid (x = 0) := (leastR_range h.out (Or.inr hB)).1
        obtain rfl : 5 = e := (leastR_range h.out (Or.inr hB)).2.symm
        clear h
        go_enter Try.func19, Try.ntmps19
        go_wp2_with fail
        refine (refRight_any _ ts lim cyc dued minf minp start _ HR _ (HV.out.below hb0)).mono ?_
        rintro _ w1 ⟨rfl, hb1⟩
        obtain ⟨t0, t1, t2, t3, t4, t5, t6⟩ := HTB.out.below hb1
        go_wp2
        go_ret2
        rw [HX.out]
        exact ⟨rfl, (by repeat (first | with_reducible exact Below.refl _ _ | (with_reducible refine bl_sc ?_ ?hge; case hge => (first | exact Nat.le_refl _ | omega)) | with_reducible refine bl_al ?_ _ | with_reducible refine bl_dr ?_ | with_reducible refine bl_dN ?_ _ | (refine bl_tr ?_ (by assumption)) | (refine bl_gr ?_ (by assumption) (by first | exact Nat.le_refl _ | omega)) | exact Below.refl _ _ | refine bl_al ?_ _ | refine bl_dr ?_ | refine bl_dN ?_ _))⟩

      · obtain ⟨p, hp, hx, he⟩ := leastR_fine h.out hA hB hmp
        obtain rfl : 0 = e := he.symm
        have HX := Lib.hid hx
        have HP := Lib.hid hp
        have HMP : Hid (-9223372036854775808 ≤ minp ∧ minp < 9223372036854775808) := ⟨by omega, by omega⟩
        clear h hx hp he hmp
        go_enter Try.func19, Try.ntmps19
        go_wp2_with fail
        refine (refRight_any _ ts lim cyc dued minf minp start _ HR _ (HV.out.below hb0)).mono ?_
        rintro _ w1 ⟨rfl, hb1⟩
        obtain ⟨t0, t1, t2, t3, t4, t5, t6⟩ := HTB.out.below hb1
        go_wp2_with fail
        refine (refShare_any total minp 1000 p 0 HMP.out ⟨by decide, by decide⟩ HP _).mono ?_
        rintro _ w2 ⟨rfl, hb2⟩
        obtain ⟨t0, t1, t2, t3, t4, t5, t6⟩ := (HTB.out.below hb1).below hb2
        go_wp2
        go_ret2
        rw [HX.out]
        exact ⟨rfl, (by repeat (first | with_reducible exact Below.refl _ _ | (with_reducible refine bl_sc ?_ ?hge; case hge => (first | exact Nat.le_refl _ | omega)) | with_reducible refine bl_al ?_ _ | with_reducible refine bl_dr ?_ | with_reducible refine bl_dN ?_ _ | (refine bl_tr ?_ (by assumption)) | (refine bl_gr ?_ (by assumption) (by first | exact Nat.le_refl _ | omega)) | exact Below.refl _ _ | refine bl_al ?_ _ | refine bl_dr ?_ | refine bl_dN ?_ _))⟩

end Go.Proofs.Ytllblmoojohffaa
