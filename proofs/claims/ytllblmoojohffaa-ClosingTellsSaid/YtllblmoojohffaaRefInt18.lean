/- lombardref18.Interest: what each tranche bears, as the document says it. -/
import Derived.Test.YtllblmoojohffaaClosIntA
import Derived.Test.YtllblmoojohffaaRefRight
import Derived.Test.YtllblmoojohffaaRef13B
namespace Go.Proofs.Ytllblmoojohffaa
open Go.RowKit EvM

theorem own_belowI {w w' : World} {base : Nat} {e : TypeId} {size n : Nat} {v : Value} {xs : List Value} (h : w.ownsRow base e size v n xs) (hb : Below w.heap.size w w') : w'.ownsRow base e size v n xs := by
  obtain ⟨h1, h2⟩ := h
  refine ⟨h1, ?_⟩
  rcases h2 with h2 | ⟨g, cap, cur, hv, hg, hc, r⟩
  · exact Or.inl h2
  · exact Or.inr ⟨g, cap, cur, hv, hg, (hb.block g (Array.getElem?_eq_some_iff.1 hc).1).trans hc, r⟩
set_option maxHeartbeats 3200000 in
set_option maxRecDepth 100000 in
theorem refInt18_go (v : Value) (ts : List (Int × Bool)) (lim cyc dued minf minp start : Int) (bv rv : Value) (bss rss : List (List Int)) (g : Bool) (hrt : rightT lim ts cyc dued minf minp start = true) (hl1 : bss.length = ts.length) (hl2 : rss.length = ts.length) (hts : 1 ≤ ts.length ∧ ts.length ≤ 1000) (w : World) (hv : TrS w v ts) (hb : RwS w bv bss) (hr : RwS w rv rss) :
    Calls Try.prog 35 #[.agg #[.int .i64 lim, v, .int .i64 cyc, .int .i64 dued, .int .i64 minf, .int .i64 minp, .int .i64 start], bv, rv, .bool g] w (RetIn (intK bss rss ts g ts.length).1 (intK bss rss ts g ts.length).2 w) := by
  have HV := Lib.hid hv
  have HB := Lib.hid hb
  have HR := Lib.hid hr
  obtain ⟨ao, cap, rfl, h1, ⟨h2, hnn⟩, h3⟩ := hv
  clear h3 hnn
  obtain ⟨b0, bc, rfl, g1, ⟨g2, hnn⟩, h3⟩ := hb
  clear h3 hnn
  obtain ⟨r0, rc, rfl, i1, ⟨i2, hnn⟩, h3⟩ := hr
  clear h3 hnn
  unfold maxLen at h2 g2 i2
  have HRT : Hid ((if rightT lim ts cyc dued minf minp start = true then 0 else 6) = (0 : Int)) := by show _ = _; rw [hrt]; rfl
  have d1 : ((bss.length : Int) != (ts.length : Int)) = false := by simp; omega
  have d2 : ((rss.length : Int) != (ts.length : Int)) = false := by simp; omega
  have HL := Lib.hid (And.intro hl1 (And.intro hl2 hts))
  have S0 : Hid (Blk (w.alloc (.cells #[.int .i64 lim, .slice ao ts.length cap, .int .i64 cyc, .int .i64 dued, .int .i64 minf, .int .i64 minp, .int .i64 start] 34)) w.heap.size 34 [.int .i64 lim, .slice ao ts.length cap, .int .i64 cyc, .int .i64 dued, .int .i64 minf, .int .i64 minp, .int .i64 start]) := heap_alloc_new w _
  have SB : Hid (Below w.heap.size w (w.alloc (.cells #[.int .i64 lim, .slice ao ts.length cap, .int .i64 cyc, .int .i64 dued, .int .i64 minf, .int .i64 minp, .int .i64 start] 34))) := bl_al (Below.refl _ _) _
  obtain ⟨i0, hi, hz0, hz1, hz2⟩ := info_parts info_clone
  clear hrt hl1 hl2 hts
  go_enter Try.func35, Try.ntmps35
  go_wp2_with fail
  refine (refRight_any _ ts lim cyc dued minf minp start _ HRT _ (HV.out.below SB.out)).mono ?_
  rintro _ w1 ⟨rfl, hb1⟩
  have R0 := Lib.hid (S0.out.below hb1)
  have RB := Lib.hid (bl_tr SB.out hb1)
  have t1 := R0.out.cell 1
  simp only [List.getElem?_cons_zero, List.getElem?_cons_succ] at t1
  have hz1w := R0.out.lt
  clear hb1 S0 SB HRT
  have ST : Hid (w1.ownsRow w1.heap.size 2 1 (.slice none 0 0) 0 ((intK bss rss ts g 0).1.map (Value.int .i64))) := ⟨rfl, .inl ⟨rfl, rfl⟩⟩
  go_wp2_with fail
  clear t1 d1 d2
  go_loopg [10, 11] ts.length (fun gg out i wr => ∃ k : Nat, k + gg = ts.length ∧ i = .int .i64 k ∧ Hid (wr.ownsRow w1.heap.size 2 1 out k ((intK bss rss ts g k).1.map (Value.int .i64))) ∧ Hid ((intK bss rss ts g k).2 = 0) ∧ Hid (Below w1.heap.size w1 wr))
  case atStart => exact ⟨0, by omega, rfl, ST, rfl, Below.refl _ _⟩
  case round =>
    obtain ⟨k, hkg, rfl, HO, HK0, HBK⟩ := hrel
    have t1 := (R0.out.below HBK.out).cell 1
    simp only [List.getElem?_cons_zero, List.getElem?_cons_succ] at t1
    have HBW := Lib.hid (bl_tr RB.out HBK.out)
    cases gk with
    | zero =>
      have hlt : ¬ ((k : Int) < (ts.length : Int)) := by omega
      obtain rfl : k = ts.length := by omega
      have HS := Lib.hid (Sl.of_own HO.out (intK_len HK0.out))
      go_wp2_with fail
      go_ret2
      rw [HK0.out]
      exact ⟨_, rfl, HS.out, HBW.out⟩
    | succ gg =>
      have hlt : (k : Int) < (ts.length : Int) := by omega
      have hkn : k < ts.length := by omega
      obtain ⟨b, o, e0, hc1, hc2⟩ := (HV.out.below HBW.out).get18 hkn
      subst e0
      obtain ⟨x1, x2, hx12⟩ : ∃ x1 x2, ts.getD k (0, false) = (x1, x2) := ⟨_, _, rfl⟩
      rw [hx12] at hc1 hc2
      simp only at hc1 hc2
      have HM := Lib.hid hx12
      have hl8 := HL.out.2.2
      have HBS : Hid (w1.heap.size ≤ wr.heap.size) := HBK.out.size
      clear hx12
      cases hgr : (g && x2) with
      | true =>
        have hg1 : g = true ∧ x2 = true := by simpa using hgr
        obtain ⟨rfl, rfl⟩ := hg1
        have HN := Lib.hid (intK_grace HK0.out (show (true && (ts.getD k (0, false)).2) = true by rw [HM.out]; rfl))
        clear hgr
        go_wp2_with (at_builtin; refine wpList_append_own _ rfl (.tmp 66) (.tmp 68) 22 rfl w1.heap.size 2 i0 (.int .i64 0) 1 8 Try.underlying22 hi hz0 hz1 hz2 rfl (by decide) _ _ _ rfl (HO.out.alloc _) ⟨wr.heap.size, 0, none⟩ 1 1 [.int .i64 0] rfl rfl (cell_one_new _ _ _) (fun x hx => by simp at hx; subst hx; rfl) (by unfold maxLen; omega) (by omega) (by simp; exact Nat.le_succ_of_le HBS.out) ?_; intro v6 w6 hown6 hg6 hn6; clear hn6; have HO6 := Lib.hid hown6; have HG6 := Lib.hid hg6; clear hown6 hg6)
        go_roundg gg
        case measure => omega
        case rel =>
          refine ⟨k + 1, by omega, by go_num, ?_, ?_, ?_⟩
          · show World.ownsRow _ _ _ _ _ _ _
            rw [HN.out]
            simp only [List.map_append, List.map_cons, List.map_nil]
            exact HO6.out
          · show _ = _
            rw [HN.out]
          · exact Below.grown (HBK.out.alloc HBS.out _) HG6.out (by simp; exact Nat.le_succ_of_le HBS.out) (fun q hq => (HO.out.lt q hq).1)
      | false =>
        obtain ⟨bb, ob, ub, e1, hcb, HSb⟩ := (HB.out.below HBW.out).get (i := k) (by have := HL.out; omega)
        obtain ⟨br, or, ur, e2, hcr, HSr⟩ := (HR.out.below HBW.out).get (i := k) (by have := HL.out; omega)
        subst e1 e2
        obtain ⟨aub, qub, rfl⟩ := HSb.out.shape
        obtain ⟨aur, qur, rfl⟩ := HSr.out.shape
        have hkb : (k : Int) < (bss.length : Int) := by have := HL.out; omega
        have hkr : (k : Int) < (rss.length : Int) := by have := HL.out; omega
        obtain ⟨y, e, hint⟩ : ∃ y e, interR (bss.getD k []) (rss.getD k []) = (y, e) := ⟨_, _, rfl⟩
        have HINT := Lib.hid hint
        have HGF : Hid ((g && (ts.getD k (0, false)).2) = false) := by show _ = _; rw [HM.out]; exact hgr
        have hor : (g = false ∧ x2 = false) ∨ (g = false ∧ x2 = true) ∨ (g = true ∧ x2 = false) := by cases g <;> cases x2 <;> simp_all
        clear hint hgr
        have hs0 : wr.cell? ⟨bb, ob + k, none⟩ = some (.slice aub (bss.getD k []).length qub) ∧ wr.cell? ⟨br, or + k, none⟩ = some (.slice aur (rss.getD k []).length qur) := ⟨hcb, hcr⟩
        have hsd : wr.drew.cell? ⟨bb, ob + k, none⟩ = some (.slice aub (bss.getD k []).length qub) ∧ wr.drew.cell? ⟨br, or + k, none⟩ = some (.slice aur (rss.getD k []).length qur) := ⟨hcb, hcr⟩
        have HSC := Lib.hid hs0
        have HOR := Lib.hid hor
        clear hcb hcr hor
        rcases HOR.out with ⟨rfl, rfl⟩ | ⟨rfl, rfl⟩ | ⟨rfl, rfl⟩
        all_goals
          go_wp2_with fail
          go_region_held3 (fun W' => W'.cell? ⟨bb, ob + k, none⟩ = some (.slice aub (bss.getD k []).length qub) ∧ W'.cell? ⟨br, or + k, none⟩ = some (.slice aur (rss.getD k []).length qur)) (first | with_reducible assumption | with_reducible exact hs0 | with_reducible exact hsd | with_reducible exact hs5) (first | (go_at_call 23; refine (refOf13_any _ _ (bss.getD k []) (rss.getD k []) y e HINT _ (HSb.out.below (by first | exact Below.refl _ _ | exact bl_dr (Below.refl _ _))) (HSr.out.below (by first | exact Below.refl _ _ | exact bl_dr (Below.refl _ _)))).mono ?_; rintro _ w5 ⟨rfl, hb5⟩; have HB5 : Hid (Below wr.heap.size wr w5) := (by first | exact hb5 | exact bl_tr (bl_dr (Below.refl _ _)) hb5); have hs5 : w5.cell? ⟨bb, ob + k, none⟩ = some (.slice aub (bss.getD k []).length qub) ∧ w5.cell? ⟨br, or + k, none⟩ = some (.slice aur (rss.getD k []).length qur) := ⟨(HB5.out.cell (p := ⟨bb, ob + k, none⟩) (cell_block_lt HSC.out.1)).trans HSC.out.1, (HB5.out.cell (p := ⟨br, or + k, none⟩) (cell_block_lt HSC.out.2)).trans HSC.out.2⟩; clear hb5))
          clear hs0 hsd hs5
          by_cases he : e = 0
          · subst he
            have HNX := Lib.hid (intK_bears HK0.out HGF.out HINT.out)
            have HO5 := Lib.hid (own_belowI HO.out HB5.out)
            have HBS5 : Hid (w1.heap.size ≤ w5.heap.size) := Nat.le_trans HBS.out HB5.out.size
            have HBK5 := Lib.hid (HBK.out.trans (HB5.out.mono HBS.out))
            go_wp2_with (at_builtin; refine wpList_append_own _ rfl (.tmp 66) (.tmp 68) 22 rfl w1.heap.size 2 i0 (.int .i64 0) 1 8 Try.underlying22 hi hz0 hz1 hz2 rfl (by decide) _ _ _ rfl (HO5.out.alloc _) ⟨w5.heap.size, 0, none⟩ 1 1 [.int .i64 y] rfl rfl (cell_one_new _ _ _) (fun x hx => by simp at hx; subst hx; rfl) (by unfold maxLen; omega) (by omega) (by simp; exact Nat.le_succ_of_le HBS5.out) ?_; intro v6 w6 hown6 hg6 hn6; clear hn6; have HO6 := Lib.hid hown6; have HG6 := Lib.hid hg6; clear hown6 hg6)
            go_roundg gg
            case measure => omega
            case rel =>
              refine ⟨k + 1, by omega, by go_num, ?_, ?_, ?_⟩
              · show World.ownsRow _ _ _ _ _ _ _
                rw [HNX.out]
                simp only [List.map_append, List.map_cons, List.map_nil]
                exact HO6.out
              · show _ = _
                rw [HNX.out]
              · exact Below.grown (HBK5.out.alloc HBS5.out _) HG6.out (by simp; exact Nat.le_succ_of_le HBS5.out) (fun q hq => (HO5.out.lt q hq).1)
          · have HNX := Lib.hid (intK_stays (intK_err HK0.out HGF.out HINT.out he) he (show k + 1 ≤ ts.length from hkn))
            have heb : (e != 0) = true := by simpa using he
            have HBE := Lib.hid (bl_tr HBW.out HB5.out)
            clear he
            go_wp2_with fail
            go_ret2
            rw [HNX.out]
            exact ⟨_, rfl, Sl.nil, HBE.out⟩
set_option maxHeartbeats 1600000 in
set_option maxRecDepth 100000 in
theorem refInt18_no (v : Value) (ts : List (Int × Bool)) (lim cyc dued minf minp start : Int) (bv rv : Value) (bss rss : List (List Int)) (g : Bool) (rt : Bool) (hrt : Hid (rightT lim ts cyc dued minf minp start = rt)) (hno : Hid (rt = true → ¬ (bss.length = ts.length ∧ rss.length = ts.length))) (w : World) (hv : TrS w v ts) (hb : RwS w bv bss) (hr : RwS w rv rss) :
    Calls Try.prog 35 #[.agg #[.int .i64 lim, v, .int .i64 cyc, .int .i64 dued, .int .i64 minf, .int .i64 minp, .int .i64 start], bv, rv, .bool g] w (RetIn [] (if rt = true then 1 else 6) w) := by
  have HV := Lib.hid hv
  obtain ⟨ao, cap, rfl, h1, ⟨h2, hnn⟩, h3⟩ := hv
  clear h3 hnn
  obtain ⟨b0, bc, rfl, g1, ⟨g2, hnn⟩, h3⟩ := hb
  clear h3 hnn
  obtain ⟨r0, rc, rfl, i1, ⟨i2, hnn⟩, h3⟩ := hr
  clear h3 hnn
  unfold maxLen at h2 g2 i2
  have S0 : Hid (Blk (w.alloc (.cells #[.int .i64 lim, .slice ao ts.length cap, .int .i64 cyc, .int .i64 dued, .int .i64 minf, .int .i64 minp, .int .i64 start] 34)) w.heap.size 34 [.int .i64 lim, .slice ao ts.length cap, .int .i64 cyc, .int .i64 dued, .int .i64 minf, .int .i64 minp, .int .i64 start]) := heap_alloc_new w _
  have SB : Hid (Below w.heap.size w (w.alloc (.cells #[.int .i64 lim, .slice ao ts.length cap, .int .i64 cyc, .int .i64 dued, .int .i64 minf, .int .i64 minp, .int .i64 start] 34))) := bl_al (Below.refl _ _) _
  cases rt with
  | false =>
    have HRT : Hid ((if rightT lim ts cyc dued minf minp start = true then 0 else 6) = (6 : Int)) := by show _ = _; rw [hrt.out]; rfl
    go_enter Try.func35, Try.ntmps35
    go_wp2_with fail
    refine (refRight_any _ ts lim cyc dued minf minp start _ HRT _ (HV.out.below SB.out)).mono ?_
    rintro _ w1 ⟨rfl, hb1⟩
    have RB := Lib.hid (bl_tr SB.out hb1)
    clear hb1 S0
    go_wp2_with fail
    go_ret2
    exact ⟨_, rfl, Sl.nil, RB.out⟩
  | true =>
    have HRT : Hid ((if rightT lim ts cyc dued minf minp start = true then 0 else 6) = (0 : Int)) := by show _ = _; rw [hrt.out]; rfl
    have hno2 := hno.out rfl
    by_cases e1 : bss.length = ts.length
    · have d1 : ((bss.length : Int) != (ts.length : Int)) = false := by simp; omega
      have d2 : ((rss.length : Int) != (ts.length : Int)) = true := by simp; omega
      clear hno2 e1
      go_enter Try.func35, Try.ntmps35
      go_wp2_with fail
      refine (refRight_any _ ts lim cyc dued minf minp start _ HRT _ (HV.out.below SB.out)).mono ?_
      rintro _ w1 ⟨rfl, hb1⟩
      have t1 := (S0.out.below hb1).cell 1
      simp only [List.getElem?_cons_zero, List.getElem?_cons_succ] at t1
      have RB := Lib.hid (bl_tr SB.out hb1)
      clear hb1 S0
      go_wp2_with fail
      go_ret2
      exact ⟨_, rfl, Sl.nil, RB.out⟩
    · have d1 : ((bss.length : Int) != (ts.length : Int)) = true := by simp; omega
      clear hno2 e1
      go_enter Try.func35, Try.ntmps35
      go_wp2_with fail
      refine (refRight_any _ ts lim cyc dued minf minp start _ HRT _ (HV.out.below SB.out)).mono ?_
      rintro _ w1 ⟨rfl, hb1⟩
      have t1 := (S0.out.below hb1).cell 1
      simp only [List.getElem?_cons_zero, List.getElem?_cons_succ] at t1
      have RB := Lib.hid (bl_tr SB.out hb1)
      clear hb1 S0
      go_wp2_with fail
      go_ret2
      exact ⟨_, rfl, Sl.nil, RB.out⟩
theorem refInt18_any (v : Value) (ts : List (Int × Bool)) (lim cyc dued minf minp start : Int) (bv rv : Value) (bss rss : List (List Int)) (g : Bool) (r : List Int × Int) (hr0 : Hid (intS (rightT lim ts cyc dued minf minp start) ts bss rss g = r)) (w : World) (hv : TrS w v ts) (hb : RwS w bv bss) (hr : RwS w rv rss) :
    Calls Try.prog 35 #[.agg #[.int .i64 lim, v, .int .i64 cyc, .int .i64 dued, .int .i64 minf, .int .i64 minp, .int .i64 start], bv, rv, .bool g] w (RetIn r.1 r.2 w) := by
  have h := hr0.out
  subst h
  unfold intS
  cases hrt : rightT lim ts cyc dued minf minp start with
  | false =>
    rw [if_pos rfl]
    exact refInt18_no v ts lim cyc dued minf minp start bv rv bss rss g false hrt (fun h => by cases h) w hv hb hr
  | true =>
    rw [if_neg (by simp)]
    by_cases hl : bss.length = ts.length ∧ rss.length = ts.length
    · rw [if_neg (by simpa using hl)]
      exact refInt18_go v ts lim cyc dued minf minp start bv rv bss rss g hrt hl.1 hl.2 (by have := rightT_len hrt; omega) w hv hb hr
    · rw [if_pos hl]
      exact refInt18_no v ts lim cyc dued minf minp start bv rv bss rss g true hrt (fun _ => hl) w hv hb hr
end Go.Proofs.Ytllblmoojohffaa
