/- What each tranche bears, or why not: plain. closing.Interest, whatever comes in: what each tranche bears, or why not. -/
import Derived.Test.YtllblmoojohffaaClosInt
namespace Go.Proofs.Ytllblmoojohffaa
open Go.RowKit EvM

/-- Of the first k tranches; the reason. -/
def intK (bss rss : List (List Int)) (ts : List (Int × Bool)) (g : Bool) : Nat → List Int × Int
  | 0 => ([], 0)
  | k + 1 => if (intK bss rss ts g k).2 ≠ 0 then intK bss rss ts g k else
    if (g && (ts.getD k (0, false)).2) = true then ((intK bss rss ts g k).1 ++ [0], 0) else
    if (interR (bss.getD k []) (rss.getD k [])).2 ≠ 0 then ([], (interR (bss.getD k []) (rss.getD k [])).2) else ((intK bss rss ts g k).1 ++ [(interR (bss.getD k []) (rss.getD k [])).1], 0)
def intS (rt : Bool) (ts : List (Int × Bool)) (bss rss : List (List Int)) (g : Bool) : List Int × Int :=
  if rt = false then ([], 6) else if ¬ (bss.length = ts.length ∧ rss.length = ts.length) then ([], 1) else intK bss rss ts g ts.length
section
variable {bss rss : List (List Int)} {ts : List (Int × Bool)} {g : Bool} {k : Nat}
theorem intK_len (h : (intK bss rss ts g k).2 = 0) : (intK bss rss ts g k).1.length = k := by
  induction k with
  | zero => rfl
  | succ k ih =>
    unfold intK at h ⊢
    by_cases h0 : (intK bss rss ts g k).2 = 0
    · have := ih h0
      rw [if_neg (by simpa using h0)] at h ⊢
      by_cases h1 : (g && (ts.getD k (0, false)).2) = true
      · rw [if_pos h1]
        simp [this]
      · rw [if_neg h1] at h ⊢
        by_cases h2 : (interR (bss.getD k []) (rss.getD k [])).2 = 0
        · rw [if_neg (by simpa using h2)]
          simp [this]
        · rw [if_pos h2] at h
          exact absurd h h2
    · rw [if_pos h0] at h
      exact absurd h h0
theorem intK_grace (h : (intK bss rss ts g k).2 = 0) (h1 : (g && (ts.getD k (0, false)).2) = true) : intK bss rss ts g (k + 1) = ((intK bss rss ts g k).1 ++ [0], 0) := by
  rw [intK, if_neg (by simpa using h), if_pos h1]
theorem intK_bears {y : Int} (h : (intK bss rss ts g k).2 = 0) (h1 : (g && (ts.getD k (0, false)).2) = false) (h2 : interR (bss.getD k []) (rss.getD k []) = (y, 0)) : intK bss rss ts g (k + 1) = ((intK bss rss ts g k).1 ++ [y], 0) := by
  rw [intK, if_neg (by simpa using h), if_neg (by rw [h1]; simp), h2, if_neg (by simp)]
theorem intK_err {y e : Int} (h : (intK bss rss ts g k).2 = 0) (h1 : (g && (ts.getD k (0, false)).2) = false) (h2 : interR (bss.getD k []) (rss.getD k []) = (y, e)) (he : e ≠ 0) : intK bss rss ts g (k + 1) = ([], e) := by
  rw [intK, if_neg (by simpa using h), if_neg (by rw [h1]; simp), h2, if_pos he]
theorem intK_stays {m : Nat} {r : List Int × Int} (h : intK bss rss ts g k = r) (he : r.2 ≠ 0) (hm : k ≤ m) : intK bss rss ts g m = r := by
  induction m with
  | zero =>
    obtain rfl : k = 0 := by omega
    exact h
  | succ m ih =>
    by_cases e : k = m + 1
    · subst e; exact h
    · have := ih (by omega)
      rw [intK, this, if_pos he]
end
/-- What is there of the answer by then: the rest is 0. -/
def fillZ (xs : List Int) (n : Nat) : List Int := xs ++ List.replicate (n - xs.length) 0
theorem fillZ_len {xs : List Int} {n : Nat} (h : xs.length ≤ n) : (fillZ xs n).length = n := by simp [fillZ]; omega
theorem fillZ_get {xs : List Int} {n : Nat} (h : xs.length < n) : (fillZ xs n).getD xs.length 0 = 0 := by
  unfold fillZ
  rw [List.getD_eq_getElem?_getD, List.getElem?_append_right (by omega)]
  simp [show 0 < n - xs.length by omega]
theorem fillZ_set {xs : List Int} {n : Nat} (h : xs.length < n) (y : Int) : (fillZ xs n).set xs.length y = fillZ (xs ++ [y]) n := by
  unfold fillZ
  rw [List.set_append_right _ _ (by omega), Nat.sub_self, show n - xs.length = (n - xs.length - 1) + 1 by omega, List.replicate_succ, List.set_cons_zero]
  simp [Nat.sub_sub]
theorem fillZ_zero {xs : List Int} {n : Nat} (h : xs.length < n) : fillZ (xs ++ [0]) n = fillZ xs n := by
  rw [← fillZ_set h 0]
  apply List.ext_getElem (by simp)
  intro j h1 h2
  rw [List.getElem_set]
  split
  · rename_i hj
    subst hj
    have := fillZ_get h
    simp only [List.getD, List.getElem?_eq_getElem h2, Option.getD_some] at this
    exact this.symm
  · rfl
theorem fillZ_all {xs : List Int} {n : Nat} (h : xs.length = n) : fillZ xs n = xs := by simp [fillZ, h]
end Go.Proofs.Ytllblmoojohffaa

namespace Go.Proofs.Ytllblmoojohffaa
open Go.RowKit EvM

set_option maxHeartbeats 3200000 in
set_option maxRecDepth 100000 in
theorem closInt_go (v : Value) (ts : List (Int × Bool)) (lim cyc dued minf minp start : Int) (bv rv : Value) (bss rss : List (List Int)) (g : Bool) (hrt : rightT lim ts cyc dued minf minp start = true) (hl1 : bss.length = ts.length) (hl2 : rss.length = ts.length) (hts : 1 ≤ ts.length ∧ ts.length ≤ 1000) (w : World) (hv : TrS w v ts) (hb : RwS w bv bss) (hr : RwS w rv rss) :
    Calls Try.prog 34 #[.agg #[.int .i64 lim, v, .int .i64 cyc, .int .i64 dued, .int .i64 minf, .int .i64 minp, .int .i64 start], bv, rv, .bool g] w (RetIn (intK bss rss ts g ts.length).1 (intK bss rss ts g ts.length).2 w) := by
  have HV := Lib.hid hv
  have HB := Lib.hid hb
  have HR := Lib.hid hr
  obtain ⟨ao, cap, rfl, h1, ⟨h2, hnn⟩, h3⟩ := hv
  clear h3 hnn
  obtain ⟨b0, bc, rfl, g1, ⟨g2, hnn⟩, h3⟩ := hb
  clear h3 hnn
  obtain ⟨r0, rc, rfl, i1, ⟨i2, hnn⟩, h3⟩ := hr
  clear h3 hnn
  unfold maxLen at h2 g2 i2
  have HRT : Hid ((if rightT lim ts cyc dued minf minp start = true then 0 else 6) = (0 : Int)) := by show _ = _; rw [hrt]; rfl
  have d1 : ((bss.length : Int) != (ts.length : Int)) = false := by simp; omega
  have d2 : ((rss.length : Int) != (ts.length : Int)) = false := by simp; omega
  have HL := Lib.hid (And.intro hl1 (And.intro hl2 hts))
  have S0 : Hid (Blk (w.alloc (.cells #[.int .i64 lim, .slice ao ts.length cap, .int .i64 cyc, .int .i64 dued, .int .i64 minf, .int .i64 minp, .int .i64 start] 34)) w.heap.size 34 [.int .i64 lim, .slice ao ts.length cap, .int .i64 cyc, .int .i64 dued, .int .i64 minf, .int .i64 minp, .int .i64 start]) := heap_alloc_new w _
  have SB : Hid (Below w.heap.size w (w.alloc (.cells #[.int .i64 lim, .slice ao ts.length cap, .int .i64 cyc, .int .i64 dued, .int .i64 minf, .int .i64 minp, .int .i64 start] 34))) := bl_al (Below.refl _ _) _
  obtain ⟨i0, hi, hz0, hz1, hz2⟩ := info_parts info_clone
  clear hrt hl1 hl2 hts
  go_enter Try.func34, Try.ntmps34
  go_wp2_with fail
  refine (termsRight_any _ ts lim cyc dued minf minp start _ HRT _ (HV.out.below SB.out)).mono ?_
  rintro _ w1 ⟨rfl, hb1⟩
  have R0 := Lib.hid (S0.out.below hb1)
  have RB := Lib.hid (bl_tr SB.out hb1)
  have t1 := R0.out.cell 1
  simp only [List.getElem?_cons_zero, List.getElem?_cons_succ] at t1
  clear hb1 S0 SB HRT
  go_upto_region 7 with (at_make; refine wpList_make_full _ rfl _ _ 22 rfl w1.heap.size 2 i0 (.int .i64 0) 1 Try.underlying22 hi hz0 hz1 _ _ _ _ ts.length rfl rfl rfl rfl (by rw [hz2]; have := HL.out; omega) (by unfold maxLen; have := HL.out; omega) (Nat.le_refl _) ?_; intro w2 hown2 hgrow2)
  obtain ⟨cur0, hG0, _, _, hcl0, hct0, _⟩ := blk_of_own hown2
  have hc0 : cur0 = List.replicate ts.length (.int .i64 0) := by
    rw [← List.take_of_length_le (show cur0.length ≤ ts.length * 1 by omega), hct0, Nat.mul_one]
    exact toList_madeCells_one _ _
  have hb12 : Below w1.heap.size w1 w2 := grown_below1 hgrow2
  have HG : Hid (Nums w2 w1.heap.size ts.length (List.replicate ts.length 0)) := ⟨cur0, hG0, by rw [hc0]; simp, by rw [hc0]; simp⟩
  have HZL : Hid ((List.replicate ts.length (0 : Int)).length = ts.length) := by show _ = _; simp
  have HB2 := Lib.hid (bl_tr RB.out hb12)
  have X0 := Lib.hid (R0.out.below hb12)
  have hzb := RB.out.size
  obtain ⟨G, hG⟩ : ∃ G, w1.heap.size = G := ⟨_, rfl⟩
  rw [hG] at HG hzb ⊢
  clear hc0 hct0 hcl0 hG0 hown2 hgrow2 hb12 cur0 t1 R0 RB hi hz0 hz1 hz2 hG d1 d2
  have t1 := X0.out.cell 1
  simp only [List.getElem?_cons_zero, List.getElem?_cons_succ] at t1
  go_wp2_with fail
  clear t1
  go_loopg [42] ts.length (fun gg i wr => ∃ k : Nat, k + gg = ts.length ∧ i = .int .i64 k ∧ Hid (Nums wr G ts.length (fillZ (intK bss rss ts g k).1 ts.length)) ∧ Hid ((intK bss rss ts g k).2 = 0) ∧ Below w.heap.size w wr)
  case atStart => exact ⟨0, by omega, rfl, HG.out, rfl, HB2.out⟩
  case round =>
    obtain ⟨k, hkg, rfl, HI, HK0, hbw⟩ := hrel
    cases gk with
    | succ gg =>
      have hlt : (k : Int) < (ts.length : Int) := by omega
      have hkn : k < ts.length := by omega
      have HBW := Lib.hid hbw
      obtain ⟨b, o, e0, hc1, hc2⟩ := (HV.out.below hbw).get18 hkn
      subst e0
      obtain ⟨x1, x2, hx12⟩ : ∃ x1 x2, ts.getD k (0, false) = (x1, x2) := ⟨_, _, rfl⟩
      rw [hx12] at hc1 hc2
      simp only at hc1 hc2
      have HM := Lib.hid hx12
      have hlk := intK_len HK0.out
      have HLK := Lib.hid hlk
      clear hx12 hlk hbw
      cases hgr : (g && x2) with
      | true =>
        have hg1 : g = true ∧ x2 = true := by simpa using hgr
        obtain ⟨rfl, rfl⟩ := hg1
        have HN := Lib.hid (intK_grace HK0.out (show (true && (ts.getD k (0, false)).2) = true by rw [HM.out]; rfl))
        clear hgr
        go_wp2_with fail
        go_roundg gg
        case measure => omega
        case rel =>
          refine ⟨k + 1, by omega, by go_num, ?_, ?_, by exact (by repeat (first | with_reducible exact Below.refl _ _ | (with_reducible refine bl_sc ?_ ?hge; case hge => (first | exact Nat.le_refl _ | omega)) | with_reducible refine bl_al ?_ _ | with_reducible refine bl_dr ?_ | with_reducible refine bl_dN ?_ _ | (refine bl_tr ?_ (by assumption)) | (refine bl_gr ?_ (by assumption) (by first | exact Nat.le_refl _ | omega)) | exact Below.refl _ _ | refine bl_al ?_ _ | refine bl_dr ?_ | refine bl_dN ?_ _))⟩
          · have hn := (HI.out.below (bl_al (Below.refl _ _) (.cells #[.int .i64 x1, .bool true] 77)))
            show Nums _ _ _ _
            rw [HN.out]
            simp only
            rw [fillZ_zero (by rw [HLK.out]; exact hkn)]
            exact hn
          · show _ = _
            rw [HN.out]
      | false =>
        obtain ⟨bb, ob, ub, e1, hcb, HSb⟩ := (HB.out.below HBW.out).get (i := k) (by have := HL.out; omega)
        obtain ⟨br, or, ur, e2, hcr, HSr⟩ := (HR.out.below HBW.out).get (i := k) (by have := HL.out; omega)
        subst e1 e2
        obtain ⟨aub, qub, rfl⟩ := HSb.out.shape
        obtain ⟨aur, qur, rfl⟩ := HSr.out.shape
        have hkb : (k : Int) < (bss.length : Int) := by have := HL.out; omega
        have hkr : (k : Int) < (rss.length : Int) := by have := HL.out; omega
        obtain ⟨y, e, hint⟩ : ∃ y e, interR (bss.getD k []) (rss.getD k []) = (y, e) := ⟨_, _, rfl⟩
        have HINT := Lib.hid hint
        have HGF : Hid ((g && (ts.getD k (0, false)).2) = false) := by show _ = _; rw [HM.out]; exact hgr
        have hor : g = false ∨ (g = true ∧ x2 = false) := by cases g <;> simp_all
        have HZL : Hid (k < (fillZ (intK bss rss ts g k).1 ts.length).length) := by show _ < _; rw [fillZ_len (by rw [HLK.out]; omega)]; exact hkn
        have HZ5 : Hid ((fillZ (intK bss rss ts g k).1 ts.length).getD k 0 = 0) := by
          have := fillZ_get (xs := (intK bss rss ts g k).1) (n := ts.length) (by rw [HLK.out]; exact hkn)
          rwa [HLK.out] at this
        have HZS : Hid (∀ y, (fillZ (intK bss rss ts g k).1 ts.length).set k y = fillZ ((intK bss rss ts g k).1 ++ [y]) ts.length) := fun y => by
          have e9 := fillZ_set (xs := (intK bss rss ts g k).1) (n := ts.length) (by rw [HLK.out]; exact hkn) y
          rwa [HLK.out] at e9
        clear hint hgr
        have HW : ∃ W, wr.alloc (.cells #[.int .i64 x1, .bool x2] 77) = W ∧ Hid (W.cell? ⟨bb, ob + k, none⟩ = some (.slice aub (bss.getD k []).length qub) ∧ W.cell? ⟨br, or + k, none⟩ = some (.slice aur (rss.getD k []).length qur)) ∧ Hid (Nums W G ts.length (fillZ (intK bss rss ts g k).1 ts.length)) ∧ Hid (Below w.heap.size w W) ∧ Hid (Sl .i64 W (.slice aub (bss.getD k []).length qub) (bss.getD k [])) ∧ Hid (Sl .i64 W (.slice aur (rss.getD k []).length qur) (rss.getD k [])) :=
          ⟨_, rfl, ⟨((bl_al (Below.refl wr.heap.size wr) _).cell (p := ⟨bb, ob + k, none⟩) (cell_block_lt hcb)).trans hcb, ((bl_al (Below.refl wr.heap.size wr) _).cell (p := ⟨br, or + k, none⟩) (cell_block_lt hcr)).trans hcr⟩, HI.out.below (bl_al (Below.refl _ _) _), bl_al HBW.out _, HSb.out.below (bl_al (Below.refl _ _) _), HSr.out.below (bl_al (Below.refl _ _) _)⟩
        have HWH := Lib.hid HW
        clear HW
        rcases hor with rfl | ⟨rfl, rfl⟩
        all_goals
          go_upto_region 11 with fail
          obtain ⟨W, hW, SC, SN, SBB, SS1, SS2⟩ := HWH.out
          with_reducible rw [hW]
          clear hW HWH hcb hcr hc1 hc2
          have hs0 := SC.out
          have hsd : W.drew.cell? ⟨bb, ob + k, none⟩ = some (.slice aub (bss.getD k []).length qub) ∧ W.drew.cell? ⟨br, or + k, none⟩ = some (.slice aur (rss.getD k []).length qur) := SC.out
          go_region_held3 (fun W' => W'.cell? ⟨bb, ob + k, none⟩ = some (.slice aub (bss.getD k []).length qub) ∧ W'.cell? ⟨br, or + k, none⟩ = some (.slice aur (rss.getD k []).length qur)) (first | with_reducible assumption | with_reducible exact hs0 | with_reducible exact hsd | with_reducible exact hs5) (first | (go_at_call 14; refine (interOf_any _ _ (bss.getD k []) (rss.getD k []) y e HINT _ (SS1.out.below (by first | exact Below.refl _ _ | exact bl_dr (Below.refl _ _))) (SS2.out.below (by first | exact Below.refl _ _ | exact bl_dr (Below.refl _ _)))).mono ?_; rintro _ w5 ⟨rfl, hb5⟩; have HB5 : Hid (Below W.heap.size W w5) := (by first | exact hb5 | exact bl_tr (bl_dr (Below.refl _ _)) hb5); have hs5 : w5.cell? ⟨bb, ob + k, none⟩ = some (.slice aub (bss.getD k []).length qub) ∧ w5.cell? ⟨br, or + k, none⟩ = some (.slice aur (rss.getD k []).length qur) := ⟨(HB5.out.cell (p := ⟨bb, ob + k, none⟩) (cell_block_lt SC.out.1)).trans SC.out.1, (HB5.out.cell (p := ⟨br, or + k, none⟩) (cell_block_lt SC.out.2)).trans SC.out.2⟩; clear hb5))
          have hn5 := SN.out.below HB5.out
          have c5 := hn5.cell (i := k) HZL.out
          rw [HZ5.out] at c5
          have f5 := hn5.frozen k
          have HN5 := Lib.hid hn5
          clear hn5 hs0 hsd hs5
          by_cases he : e = 0
          · subst he
            have HNX := Lib.hid (intK_bears HK0.out HGF.out HINT.out)
            go_wp2_with fail
            go_roundg gg
            case measure => omega
            case rel =>
              refine ⟨k + 1, by omega, by go_num, ?_, ?_, (bl_tr SBB.out HB5.out).setCell (show w.heap.size ≤ G by omega) _⟩
              · show Nums _ _ _ _
                rw [HNX.out]
                simp only
                rw [← HZS.out y]
                exact HN5.out.set k y
              · show _ = _
                rw [HNX.out]
          · have HNX := Lib.hid (intK_stays (intK_err HK0.out HGF.out HINT.out he) he (show k + 1 ≤ ts.length from hkn))
            have heb : (e != 0) = true := by simpa using he
            have HBE := Lib.hid (bl_tr SBB.out HB5.out)
            clear he c5 f5
            go_wp2_with fail
            go_ret2
            rw [HNX.out]
            exact ⟨_, rfl, Sl.nil, HBE.out⟩
    | zero =>
      have hlt : ¬ ((k : Int) < (ts.length : Int)) := by omega
      obtain rfl : k = ts.length := by omega
      have hn := HI.out
      have hlk := intK_len HK0.out
      rw [fillZ_all hlk] at hn
      have HS := Lib.hid (hn.sl hlk (Nat.le_refl _) (by unfold maxLen; have := HL.out; omega))
      clear hn hlk
      go_wp2_with fail
      go_ret2
      rw [HK0.out]
      exact ⟨_, rfl, HS.out, hbw⟩
set_option maxHeartbeats 1600000 in
set_option maxRecDepth 100000 in
theorem closInt_no (v : Value) (ts : List (Int × Bool)) (lim cyc dued minf minp start : Int) (bv rv : Value) (bss rss : List (List Int)) (g : Bool) (rt : Bool) (hrt : Hid (rightT lim ts cyc dued minf minp start = rt)) (hno : Hid (rt = true → ¬ (bss.length = ts.length ∧ rss.length = ts.length))) (w : World) (hv : TrS w v ts) (hb : RwS w bv bss) (hr : RwS w rv rss) :
    Calls Try.prog 34 #[.agg #[.int .i64 lim, v, .int .i64 cyc, .int .i64 dued, .int .i64 minf, .int .i64 minp, .int .i64 start], bv, rv, .bool g] w (RetIn [] (if rt = true then 1 else 6) w) := by
  have HV := Lib.hid hv
  obtain ⟨ao, cap, rfl, h1, ⟨h2, hnn⟩, h3⟩ := hv
  clear h3 hnn
  obtain ⟨b0, bc, rfl, g1, ⟨g2, hnn⟩, h3⟩ := hb
  clear h3 hnn
  obtain ⟨r0, rc, rfl, i1, ⟨i2, hnn⟩, h3⟩ := hr
  clear h3 hnn
  unfold maxLen at h2 g2 i2
  have S0 : Hid (Blk (w.alloc (.cells #[.int .i64 lim, .slice ao ts.length cap, .int .i64 cyc, .int .i64 dued, .int .i64 minf, .int .i64 minp, .int .i64 start] 34)) w.heap.size 34 [.int .i64 lim, .slice ao ts.length cap, .int .i64 cyc, .int .i64 dued, .int .i64 minf, .int .i64 minp, .int .i64 start]) := heap_alloc_new w _
  have SB : Hid (Below w.heap.size w (w.alloc (.cells #[.int .i64 lim, .slice ao ts.length cap, .int .i64 cyc, .int .i64 dued, .int .i64 minf, .int .i64 minp, .int .i64 start] 34))) := bl_al (Below.refl _ _) _
  cases rt with
  | false =>
    have HRT : Hid ((if rightT lim ts cyc dued minf minp start = true then 0 else 6) = (6 : Int)) := by show _ = _; rw [hrt.out]; rfl
    go_enter Try.func34, Try.ntmps34
    go_wp2_with fail
    refine (termsRight_any _ ts lim cyc dued minf minp start _ HRT _ (HV.out.below SB.out)).mono ?_
    rintro _ w1 ⟨rfl, hb1⟩
    have RB := Lib.hid (bl_tr SB.out hb1)
    clear hb1 S0
    go_wp2_with fail
    go_ret2
    exact ⟨_, rfl, Sl.nil, RB.out⟩
  | true =>
    have HRT : Hid ((if rightT lim ts cyc dued minf minp start = true then 0 else 6) = (0 : Int)) := by show _ = _; rw [hrt.out]; rfl
    have hno2 := hno.out rfl
    by_cases e1 : bss.length = ts.length
    · have d1 : ((bss.length : Int) != (ts.length : Int)) = false := by simp; omega
      have d2 : ((rss.length : Int) != (ts.length : Int)) = true := by simp; omega
      clear hno2 e1
      go_enter Try.func34, Try.ntmps34
      go_wp2_with fail
      refine (termsRight_any _ ts lim cyc dued minf minp start _ HRT _ (HV.out.below SB.out)).mono ?_
      rintro _ w1 ⟨rfl, hb1⟩
      have t1 := (S0.out.below hb1).cell 1
      simp only [List.getElem?_cons_zero, List.getElem?_cons_succ] at t1
      have RB := Lib.hid (bl_tr SB.out hb1)
      clear hb1 S0
      go_wp2_with fail
      go_ret2
      exact ⟨_, rfl, Sl.nil, RB.out⟩
    · have d1 : ((bss.length : Int) != (ts.length : Int)) = true := by simp; omega
      clear hno2 e1
      go_enter Try.func34, Try.ntmps34
      go_wp2_with fail
      refine (termsRight_any _ ts lim cyc dued minf minp start _ HRT _ (HV.out.below SB.out)).mono ?_
      rintro _ w1 ⟨rfl, hb1⟩
      have t1 := (S0.out.below hb1).cell 1
      simp only [List.getElem?_cons_zero, List.getElem?_cons_succ] at t1
      have RB := Lib.hid (bl_tr SB.out hb1)
      clear hb1 S0
      go_wp2_with fail
      go_ret2
      exact ⟨_, rfl, Sl.nil, RB.out⟩
theorem rightT_len {lim : Int} {ts : List (Int × Bool)} {cyc dued minf minp start : Int} (h : rightT lim ts cyc dued minf minp start = true) : 1 ≤ ts.length ∧ ts.length ≤ 8 := by
  unfold rightT at h
  simp only [Bool.and_eq_true] at h
  have := betw_iff.1 h.1.1.1.1.1.2
  omega
theorem closInt_any (v : Value) (ts : List (Int × Bool)) (lim cyc dued minf minp start : Int) (bv rv : Value) (bss rss : List (List Int)) (g : Bool) (r : List Int × Int) (hr0 : Hid (intS (rightT lim ts cyc dued minf minp start) ts bss rss g = r)) (w : World) (hv : TrS w v ts) (hb : RwS w bv bss) (hr : RwS w rv rss) :
    Calls Try.prog 34 #[.agg #[.int .i64 lim, v, .int .i64 cyc, .int .i64 dued, .int .i64 minf, .int .i64 minp, .int .i64 start], bv, rv, .bool g] w (RetIn r.1 r.2 w) := by
  have h := hr0.out
  subst h
  unfold intS
  cases hrt : rightT lim ts cyc dued minf minp start with
  | false =>
    rw [if_pos rfl]
    exact closInt_no v ts lim cyc dued minf minp start bv rv bss rss g false hrt (fun h => by cases h) w hv hb hr
  | true =>
    rw [if_neg (by simp)]
    by_cases hl : bss.length = ts.length ∧ rss.length = ts.length
    · rw [if_neg (by simpa using hl)]
      exact closInt_go v ts lim cyc dued minf minp start bv rv bss rss g hrt hl.1 hl.2 (by have := rightT_len hrt; omega) w hv hb hr
    · rw [if_pos hl]
      exact closInt_no v ts lim cyc dued minf minp start bv rv bss rss g true hrt (fun _ => hl) w hv hb hr
end Go.Proofs.Ytllblmoojohffaa
