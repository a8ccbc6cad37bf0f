/- The laws of layer 15: LeastTells, LeastBetween, LeastAll. -/
import Derived.Test.YtllblmoojohffaaLeast
namespace Go.Proofs.Ytllblmoojohffaa
open Go.RowKit EvM

def Terms15 (fixed part : Int) (w : World) (e : Ending) (w' : World) : Prop := ∃ v, e = .returned (.agg #[.int .i64 0, v, .int .i64 1, .int .i64 1, .int .i64 fixed, .int .i64 part, .int .i64 10957]) ∧ TrS w' v [(0, false)] ∧ Below w.heap.size w w'
theorem TrS.lit15 {w : World} {e : TypeId} : TrS (w.alloc (.cells #[.int .i64 0, .bool false] e)) (.slice (some ⟨w.heap.size, 0, none⟩) 1 1) [(0, false)] := by
  have hb : Blk (w.alloc (.cells #[.int .i64 0, .bool false] e)) w.heap.size e [.int .i64 0, .bool false] := heap_alloc_new w _
  refine ⟨_, _, rfl, Nat.le_refl _, ⟨by simp [maxLen], fun h => by cases h⟩, fun _ => ⟨w.heap.size, 0, rfl, fun i hi => ?_⟩⟩
  obtain rfl : i = 0 := by simp at hi; omega
  exact ⟨hb.cell 0, hb.cell 1⟩
theorem TrS.lit15At {w : World} {e : TypeId} {g : Nat} (hg : w.heap.size = g) : TrS (w.alloc (.cells #[.int .i64 0, .bool false] e)) (.slice (some ⟨g, 0, none⟩) 1 1) [(0, false)] := by
  subst hg
  exact TrS.lit15
set_option maxHeartbeats 400000 in
theorem terms15_any (fixed part : Int) (w : World) : Calls Try.prog 20 #[.int .i64 fixed, .int .i64 part] w (Terms15 fixed part w) := by
  go_enter Try.func20, Try.ntmps20
  go_wp2
  refine bodyPost_ret (v := .agg #[.int .i64 0, .slice (some ⟨w.heap.size + 1, 0, none⟩) 1 1, .int .i64 1, .int .i64 1, .int .i64 fixed, .int .i64 part, .int .i64 10957]) (by simp [results, Try.results20, go_sem]) rfl ⟨_, rfl, ?_, ?_⟩
  · exact TrS.lit15At (by simp)
  · exact (by repeat (first | with_reducible exact Below.refl _ _ | (with_reducible refine bl_sc ?_ ?hge; case hge => (first | exact Nat.le_refl _ | omega)) | with_reducible refine bl_al ?_ _ | with_reducible refine bl_dr ?_ | with_reducible refine bl_dN ?_ _ | (refine bl_tr ?_ (by assumption)) | (refine bl_gr ?_ (by assumption) (by first | exact Nat.le_refl _ | omega)) | exact Below.refl _ _ | refine bl_al ?_ _ | refine bl_dr ?_ | refine bl_dN ?_ _))
theorem right15 (fixed part : Int) (hf : 0 ≤ fixed ∧ fixed ≤ 1000000000000000) (hp : 0 ≤ part ∧ part ≤ 1000) : rightT 0 [(0, false)] 1 1 fixed part 10957 = true := by
  simp [rightT, ratesT, betw]
  exact ⟨hf, hp⟩
/-- What comes of a total at terms that are right. -/
theorem least15 (fixed part total p x : Int) (hf : 0 ≤ fixed ∧ fixed ≤ 1000000000000000) (hp : 0 ≤ part ∧ part ≤ 1000) (ht : 0 ≤ total ∧ total ≤ 1000000000000000) (hs : shareR total part 1000 = (p, 0)) (hx : min total (max fixed p) = x) :
    leastR (rightT 0 [(0, false)] 1 1 fixed part 10957) fixed part total = (x, 0) := by
  unfold leastR
  rw [right15 fixed part hf hp, if_neg (by simp), if_neg (by omega), hs]
  dsimp only
  rw [hx]
theorem least_200 : leastR (rightT 0 [(0, false)] 1 1 25 20 10957) 25 20 10000 = (200, 0) := by decide
set_option maxHeartbeats 400000 in
theorem awake15_any (w : World) : Calls Try.prog 17 #[] w (RetB (.bool true) w) := by
  go_enter Try.func17, Try.ntmps17
  go_wp2_with fail
  refine (terms15_any 25 20 _).mono ?_
  rintro _ w1 ⟨v1, rfl, ht1, hb1⟩
  have HT := Lib.hid ht1
  clear ht1
  go_wp2_with fail
  refine (least_any _ [(0, false)] 0 1 1 25 20 10957 10000 200 0 least_200 _ HT.out).mono ?_
  rintro _ w2 ⟨rfl, hb2⟩
  go_wp2
  go_ret
  exact ⟨rfl, (by repeat (first | with_reducible exact Below.refl _ _ | (with_reducible refine bl_sc ?_ ?hge; case hge => (first | exact Nat.le_refl _ | omega)) | with_reducible refine bl_al ?_ _ | with_reducible refine bl_dr ?_ | with_reducible refine bl_dN ?_ _ | (refine bl_tr ?_ (by assumption)) | (refine bl_gr ?_ (by assumption) (by first | exact Nat.le_refl _ | omega)) | exact Below.refl _ _ | refine bl_al ?_ _ | refine bl_dr ?_ | refine bl_dN ?_ _))⟩

theorem u64_rem (x : Int) (m : Nat) (hm : 0 < m) (hm2 : m ≤ 9223372036854775808) : ∃ r : Nat, IntKind.u64.wrap x % (m : Int) = (r : Int) ∧ r < m ∧ wrap64 (r : Int) = (r : Int) := by
  have h1 := Int.emod_nonneg (IntKind.u64.wrap x) (show (m : Int) ≠ 0 by omega)
  have h2 := Int.emod_lt_of_pos (IntKind.u64.wrap x) (show (0 : Int) < (m : Int) by omega)
  refine ⟨(IntKind.u64.wrap x % (m : Int)).toNat, by omega, by omega, by unfold wrap64; omega⟩

set_option maxHeartbeats 800000 in
set_option maxRecDepth 100000 in
theorem leastTells_any (v : Value) (ts : List (Int × Bool)) (lim cyc dued minf minp start total : Int) (w : World) (hv : TrS w v ts) :
    Calls Try.prog 5 #[.agg #[.int .i64 lim, v, .int .i64 cyc, .int .i64 dued, .int .i64 minf, .int .i64 minp, .int .i64 start], .int .i64 total] w (RetB (.bool true) w) := by
  have HV := Lib.hid hv
  obtain ⟨ao, cap, rfl, h1, ⟨h2, _⟩, h3⟩ := hv
  clear h3
  unfold maxLen at h2
  obtain ⟨x, e, hx⟩ : ∃ x e, leastR (rightT lim ts cyc dued minf minp start) minf minp total = (x, e) := ⟨_, _, rfl⟩
  have HX := Lib.hid hx
  clear hx
  have HTB := Lib.hid (TB.new w 34 lim (.slice ao ts.length cap) cyc dued minf minp start)
  have hb0 : Below w.heap.size w (w.alloc (.cells #[.int .i64 lim, .slice ao ts.length cap, .int .i64 cyc, .int .i64 dued, .int .i64 minf, .int .i64 minp, .int .i64 start] 34)) := bl_al (Below.refl _ _) _
  obtain ⟨t0, t1, t2, t3, t4, t5, t6⟩ := HTB.out
  by_cases hlt : ts.length ≤ 40
  · have d1 : decide ((40 : Int) < (ts.length : Int)) = false := by simp; omega
    go_enter Try.func5, Try.ntmps5
    go_wp2_with fail
    refine (least_any _ ts lim cyc dued minf minp start total x e HX _ (HV.out.below hb0)).mono ?_
    rintro _ w1 ⟨rfl, hb1⟩
    clear t0 t1 t2 t3 t4 t5 t6
    obtain ⟨t0, t1, t2, t3, t4, t5, t6⟩ := HTB.out.below hb1
    have hb01 := bl_tr hb0 hb1
    go_wp2_with fail
    refine (refLeast_any _ ts lim cyc dued minf minp start total x e HX _ (HV.out.below hb01)).mono ?_
    rintro _ w2 ⟨rfl, hb2⟩
    go_wp2_with fail
    refine (awake15_any _).mono ?_
    rintro _ w3 ⟨rfl, hb3⟩
    go_wp2
    go_ret
    exact ⟨rfl, bl_tr hb01 (bl_tr hb2 hb3)⟩
  · have d1 : decide ((40 : Int) < (ts.length : Int)) = true := by simp; omega
    go_enter Try.func5, Try.ntmps5
    go_wp2_with fail
    refine (awake15_any _).mono ?_
    rintro _ w3 ⟨rfl, hb3⟩
    go_wp2
    go_ret
    exact ⟨rfl, bl_tr hb0 hb3⟩

set_option maxHeartbeats 800000 in
set_option maxRecDepth 100000 in
theorem leastAll_any (total fixed : Int) (ht64 : -9223372036854775808 ≤ total ∧ total < 9223372036854775808) (w : World) : Calls Try.prog 7 #[.int .i64 total, .int .i64 fixed] w (RetB (.bool true) w) := by
  by_cases h1 : total < 0
  · clear ht64
    go_enter Try.func7, Try.ntmps7
    go_wp2_with fail
    refine (awake15_any _).mono ?_
    rintro _ w3 ⟨rfl, hb3⟩
    go_wp2
    go_ret
    exact ⟨rfl, hb3⟩
  · by_cases h2 : 1000000000000000 < total
    · clear ht64
      go_enter Try.func7, Try.ntmps7
      go_wp2_with fail
      refine (awake15_any _).mono ?_
      rintro _ w3 ⟨rfl, hb3⟩
      go_wp2
      go_ret
      exact ⟨rfl, hb3⟩
    · obtain ⟨F, hF, hF1, hF2⟩ := u64_rem fixed 1000000000000000 (by omega) (by omega)
      have hm : mayM total = true := mayM_iff.2 (by omega)
      obtain ⟨z, hz⟩ : ∃ z, min total (F : Int) = z := ⟨_, rfl⟩
      have s1 := Lib.hid (least15 F 1000 total total total ⟨by omega, by omega⟩ ⟨by omega, by omega⟩ ⟨by omega, by omega⟩ (share_all total 1000 (by omega) hm) (by omega))
      have s2 := Lib.hid (least15 0 0 total 0 0 ⟨by omega, by omega⟩ ⟨by omega, by omega⟩ ⟨by omega, by omega⟩ (share_none total 1000 (by omega) hm) (by omega))
      have s3 := Lib.hid (least15 F 0 total 0 z ⟨by omega, by omega⟩ ⟨by omega, by omega⟩ ⟨by omega, by omega⟩ (share_none total 1000 (by omega) hm) (by omega))
      have hF3 : (IntKind.u64.wrap fixed).tmod 1000000000000000 = (F : Int) := by
        rw [Int.tmod_eq_emod_of_nonneg (by rw [u64_wrap]; omega)]
        exact hF
      have hF4 : IntKind.u64.wrap fixed % 1000000000000000 = (F : Int) := hF
      clear hm hF hF1 ht64
      go_enter Try.func7, Try.ntmps7
      go_wp2_with fail
      refine (terms15_any F 1000 _).mono ?_
      rintro _ w1 ⟨v1, rfl, ht1, hb1⟩
      have HT := Lib.hid ht1
      clear ht1
      go_wp2_with fail
      refine (least_any _ [(0, false)] 0 1 1 F 1000 10957 total total 0 s1 _ HT.out).mono ?_
      rintro _ w2 ⟨rfl, hb2⟩
      go_wp2_with fail
      refine (terms15_any 0 0 _).mono ?_
      rintro _ w3 ⟨v3, rfl, ht3, hb3⟩
      have HT3 := Lib.hid ht3
      clear ht3
      go_wp2_with fail
      refine (least_any _ [(0, false)] 0 1 1 0 0 10957 total 0 0 s2 _ HT3.out).mono ?_
      rintro _ w4 ⟨rfl, hb4⟩
      go_wp2_with fail
      refine (terms15_any F 0 _).mono ?_
      rintro _ w5 ⟨v5, rfl, ht5, hb5⟩
      have HT5 := Lib.hid ht5
      clear ht5
      go_wp2_with fail
      refine (least_any _ [(0, false)] 0 1 1 F 0 10957 total z 0 s3 _ HT5.out).mono ?_
      rintro _ w6 ⟨rfl, hb6⟩
      go_wp2_with fail
      refine (awake15_any _).mono ?_
      rintro _ w7 ⟨rfl, hb7⟩
      have hbf : Below w.heap.size w w7 := (by repeat (first | with_reducible exact Below.refl _ _ | (with_reducible refine bl_sc ?_ ?hge; case hge => (first | exact Nat.le_refl _ | omega)) | with_reducible refine bl_al ?_ _ | with_reducible refine bl_dr ?_ | with_reducible refine bl_dN ?_ _ | (refine bl_tr ?_ (by assumption)) | (refine bl_gr ?_ (by assumption) (by first | exact Nat.le_refl _ | omega)) | exact Below.refl _ _ | refine bl_al ?_ _ | refine bl_dr ?_ | refine bl_dN ?_ _))
      clear hb1 hb2 hb3 hb4 hb5 hb6 hb7
      go_wp2
      go_ret
      exact ⟨rfl, hbf⟩

theorem wf_i64 {x : Int} (h : (Lit.int .i64 x).wf = true) : -9223372036854775808 ≤ x ∧ x < 9223372036854775808 := by
  simp [Lit.wf, IntKind.min, IntKind.max, IntKind.signed, IntKind.bits] at h
  omega
theorem leastAll_go {total fixed : Int} (h : (Lit.int .i64 total).wf = true) (w : World) : Calls Try.prog 7 #[.int .i64 total, .int .i64 fixed] w (RetB (.bool true) w) := leastAll_any total fixed (wf_i64 h) w
end Go.Proofs.Ytllblmoojohffaa
