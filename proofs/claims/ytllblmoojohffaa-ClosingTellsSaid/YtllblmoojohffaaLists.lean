/- lombardlaw18.lists: lists of days, cut off. -/
import Derived.Test.YtllblmoojohffaaClosInt
import Derived.Test.YtllblmoojohffaaAppend
import Derived.Deep.RegionHeld3
namespace Go.Proofs.Ytllblmoojohffaa
open Go.RowKit

/-- Twelve of them, forty days each. -/
def cutL (rows : List (List Int)) : List (List Int) := (rows.take 12).map fun l => l.take 40
theorem cutL_len (rows : List (List Int)) : (cutL rows).length = min 12 rows.length := by simp [cutL]
theorem cutL_get {rows : List (List Int)} {i : Nat} (h1 : i < rows.length) (h2 : i < 12) : (cutL rows).getD i [] = (rows.getD i []).take 40 := by
  simp [cutL, List.getD, h1, h2]
theorem info_row : (Try.prog.info? 22).map (fun i => (i.zero, i.size, i.bytes)) = some (some (.slice none 0 0), 1, 24) := by kernel_rfl
/-- A list of lists. -/
def RetRw (rows : List (List Int)) (w : World) (e : Ending) (w' : World) : Prop := ∃ u, e = .returned u ∧ RwS w' u rows ∧ Below w.heap.size w w'
theorem RwS.of_own {w w' : World} {base n : Nat} {e : TypeId} {v : Value} {us : List Value} {rows : List (List Int)} (h : w'.ownsRow base e 1 v n us) (hl : us.length = n) (hr : rows.length = n) (hs : ∀ i, i < n → ∃ u, us[i]? = some u ∧ Sl .i64 w u (rows.getD i [])) (hb : Below w.heap.size w w') : RwS w' v rows := by
  rcases h.2 with ⟨rfl, h0⟩ | ⟨g, cap, cur, rfl, hbg, hg, hnc, hcm, hcs, htake⟩
  · obtain rfl : rows = [] := List.eq_nil_of_length_eq_zero (by omega)
    exact ⟨none, 0, rfl, Nat.le_refl _, ⟨by simp [maxLen], fun _ => rfl⟩, fun h => absurd rfl h⟩
  · subst hr
    refine ⟨_, _, rfl, hnc, ⟨hcm, fun h => by cases h⟩, fun _ => ⟨g, 0, rfl, fun i hi => ?_⟩⟩
    obtain ⟨u, hu, hsu⟩ := hs i hi
    refine ⟨u, ?_, hsu.below hb⟩
    have hB : Blk w' g e cur.toList := by simpa [Blk] using hg
    have e1 : (cur.toList.take (rows.length * 1))[i]? = cur.toList[i]? := List.getElem?_take_of_lt (by omega)
    rw [hB.cell, Nat.zero_add, ← e1, htake, hu]

set_option maxHeartbeats 1600000 in
set_option maxRecDepth 100000 in
theorem lists18_any (v : Value) (rows : List (List Int)) (w : World) (hv : RwS w v rows) :
    Calls Try.prog 33 #[v] w (RetRw (cutL rows) w) := by
  have HV := Lib.hid hv
  obtain ⟨ao, cap, rfl, h1, ⟨h2, hnn⟩, h3⟩ := hv
  clear h3 hnn
  unfold maxLen at h2
  obtain ⟨n, hn⟩ : ∃ n, min 12 rows.length = n := ⟨_, rfl⟩
  have hn12 : n ≤ 12 ∧ n ≤ rows.length := by omega
  have HN := Lib.hid hn
  obtain ⟨i0, hi, hz0, hz1, hz2⟩ := info_parts info_row
  have ST : Hid (w.ownsRow w.heap.size 22 1 (.slice none 0 0) 0 []) := ⟨rfl, .inl ⟨rfl, rfl⟩⟩
  clear hn
  go_enter Try.func33, Try.ntmps33
  go_wp2_with fail
  go_loopg [3, 4] n (fun g out i wr => ∃ (k : Nat) (us : List Value), k + g = n ∧ i = .int .i64 k ∧ Hid (wr.ownsRow w.heap.size 22 1 out k us) ∧ Hid (us.length = k ∧ ∀ i, i < k → ∃ u, us[i]? = some u ∧ Sl .i64 w u ((cutL rows).getD i [])) ∧ Hid (Below w.heap.size w wr))
  case atStart => exact ⟨0, [], by omega, rfl, ST, ⟨rfl, fun i hi => absurd hi (by omega)⟩, Below.refl _ _⟩
  case round =>
    obtain ⟨k, us, hkg, rfl, HO, HU, HB⟩ := hrel
    cases gk with
    | zero =>
      obtain rfl : k = n := by omega
      have hfin : RwS wr u3 (cutL rows) := RwS.of_own HO.out HU.out.1 (by rw [cutL_len]; exact HN.out) HU.out.2 HB.out
      have HF := Lib.hid hfin
      by_cases h12 : k < rows.length
      · have hk12 : ¬ k < 12 := by have := HN.out; omega
        have t1 : decide ((k : Int) < 12) = false := by simp; omega
        clear hfin
        go_wp2_with fail
        go_ret
        exact ⟨_, rfl, HF.out, HB.out⟩
      · clear hfin
        go_wp2_with fail
        go_ret
        exact ⟨_, rfl, HF.out, HB.out⟩
    | succ g =>
      have hlt : k < rows.length := by omega
      have t1 : decide ((k : Int) < 12) = true := by simp; omega
      obtain ⟨b, o, u, e1, hcw, HSu⟩ := (HV.out).get (i := k) hlt
      subst e1
      obtain ⟨au, cu, rfl⟩ := HSu.out.shape
      obtain ⟨ln, hln⟩ : ∃ ln, (rows.getD k []).length = ln := ⟨_, rfl⟩
      rw [hln] at hcw HSu
      have HLN := Lib.hid hln
      have HCW := Lib.hid hcw
      have HLT : Hid (b < w.heap.size) := cell_block_lt hcw
      have hc : wr.cell? ⟨b, o + k, none⟩ = some (.slice au ln cu) := (HB.out.cell (p := ⟨b, o + k, none⟩) (cell_block_lt hcw)).trans hcw
      have hcd : wr.drew.cell? ⟨b, o + k, none⟩ = some (.slice au ln cu) := hc
      have hca : ∀ ob : Obj, (wr.alloc ob).cell? ⟨b, o + k, none⟩ = some (.slice au ln cu) := fun ob => ((bl_al (Below.refl wr.heap.size wr) ob).cell (p := ⟨b, o + k, none⟩) (cell_block_lt hc)).trans hc
      have hcda : ∀ ob : Obj, (wr.drew.alloc ob).cell? ⟨b, o + k, none⟩ = some (.slice au ln cu) := fun ob => hca ob
      have hlu := HSu.out.len
      have HBZ1 : Hid (w.heap.size ≤ wr.heap.size + 1) := Nat.le_succ_of_le HB.out.size
      have hkr : (k : Int) < (rows.length : Int) := by omega
      have hk0 : (0 : Int) ≤ (k : Int) := by omega
      have hk12 : k ≤ 12 := by omega
      have HCA := Lib.hid hca
      have HCD := Lib.hid hcda
      clear hca hcda hcw hln
      by_cases h40 : ln ≤ 40
      · have hmin : min (ln : Int) 40 = (ln : Int) := by omega
        have h40i : (ln : Int) ≤ 40 := by omega
        have HEL : Hid ((rows.getD k []).take 40 = rows.getD k []) := List.take_of_length_le (by rw [HLN.out]; exact h40)
        have hcap : (ln : Int) ≤ (cu : Int) := by have := hlu.2.1; omega
        unfold maxLen at hlu
        obtain ⟨-, hlu2, hlu3⟩ := hlu
        have h0l : (0 : Int) ≤ (ln : Int) := by omega
        have h0c : (0 : Int) ≤ (cu : Int) := by omega
        go_upto_region 5 with fail
        go_region_held3 (fun w' => w'.cell? ⟨b, o + k, none⟩ = some (.slice au ln cu)) (first | assumption | exact hc | exact hcd | exact HCA.out _ | exact HCD.out _ | exact hc9)
          (first | (refine step_append_any _ rfl (.tmp 15) (.tmp 27) 62 rfl w.heap.size 22 i0 (.slice none 0 0) 1 24 Try.underlying62 hi hz0 hz1 hz2 rfl (by decide) u3 k us (by rfl) (by first | exact HO.out.alloc _ | exact (HO.out.alloc _).drew | exact (show (wr.drew).ownsRow w.heap.size 22 1 u3 k us from HO.out).alloc _) (some ⟨wr.heap.size, 0, none⟩) 1 1 [.slice au ln cu] (by rfl) rfl (by intro h; cases h) (by intro ad had; cases had; exact cell_one_new _ _ _) (fun x hx => by simp at hx; subst hx; rfl) (by unfold maxLen; omega) (by omega) (by first | exact HBZ1.out | (rw [World.size_alloc]; exact HBZ1.out) | (simp; exact HBZ1.out)) ?_; intro v1 w9 hown3 hg3 hn3; clear hn3; have HO9 := Lib.hid hown3; have HB9 : Hid (Below w.heap.size w w9) := Below.grown (by first | exact bl_al HB.out _ | exact bl_al (bl_dr HB.out) _ | exact bl_dr (bl_al HB.out _)) hg3 (by first | exact HBZ1.out | (rw [World.size_alloc]; exact HBZ1.out) | (simp; exact HBZ1.out)) (fun q hq => (HO.out.lt q hq).1); have hc9 : w9.cell? ⟨b, o + k, none⟩ = some (.slice au ln cu) := (HB9.out.cell (p := ⟨b, o + k, none⟩) HLT.out).trans HCW.out; clear hown3 hg3))
        have HUX : Hid ((us ++ [(.slice au ln cu : Value)]).length = k + 1 ∧ ∀ i, i < k + 1 → ∃ u, (us ++ [(.slice au ln cu : Value)])[i]? = some u ∧ Sl .i64 w u ((cutL rows).getD i [])) := by
          refine ⟨by rw [List.length_append, HU.out.1]; rfl, fun i hi2 => ?_⟩
          by_cases e : i < k
          · obtain ⟨u, h1, h2⟩ := HU.out.2 i e
            exact ⟨u, by rw [List.getElem?_append_left (by rw [HU.out.1]; exact e)]; exact h1, h2⟩
          · obtain rfl : i = k := by omega
            refine ⟨.slice au ln cu, by rw [List.getElem?_append_right (by rw [HU.out.1]; exact Nat.le_refl _), HU.out.1, Nat.sub_self]; rfl, ?_⟩
            rw [cutL_get (by omega) (by omega)]
            rw [HEL.out]; exact HSu.out
        clear hc hcd hc9
        go_wp2_with fail
        go_roundg g
        case measure => omega
        case rel => exact ⟨k + 1, _, by omega, by go_num, HO9, HUX, HB9⟩
      · have hmin : min (ln : Int) 40 = 40 := by omega
        have h40i : ¬ (ln : Int) ≤ 40 := by omega
        have HGT : Hid (40 ≤ ln) := by show 40 ≤ ln; omega
        have hcap : (40 : Int) ≤ (cu : Int) := by have := hlu.2.1; omega
        unfold maxLen at hlu
        obtain ⟨-, hlu2, hlu3⟩ := hlu
        have h0l : 40 ≤ cu := by omega
        have h0c : (0 : Int) ≤ (cu : Int) := by omega
        go_upto_region 5 with fail
        go_region_held3 (fun w' => w'.cell? ⟨b, o + k, none⟩ = some (.slice au ln cu)) (first | assumption | exact hc | exact hcd | exact HCA.out _ | exact HCD.out _ | exact hc9)
          (first | (refine step_append_any _ rfl (.tmp 15) (.tmp 27) 62 rfl w.heap.size 22 i0 (.slice none 0 0) 1 24 Try.underlying62 hi hz0 hz1 hz2 rfl (by decide) u3 k us (by rfl) (by first | exact HO.out.alloc _ | exact (HO.out.alloc _).drew | exact (show (wr.drew).ownsRow w.heap.size 22 1 u3 k us from HO.out).alloc _) (some ⟨wr.heap.size, 0, none⟩) 1 1 [.slice au 40 cu] (by rfl) rfl (by intro h; cases h) (by intro ad had; cases had; exact cell_one_new _ _ _) (fun x hx => by simp at hx; subst hx; rfl) (by unfold maxLen; omega) (by omega) (by first | exact HBZ1.out | (rw [World.size_alloc]; exact HBZ1.out) | (simp; exact HBZ1.out)) ?_; intro v1 w9 hown3 hg3 hn3; clear hn3; have HO9 := Lib.hid hown3; have HB9 : Hid (Below w.heap.size w w9) := Below.grown (by first | exact bl_al HB.out _ | exact bl_al (bl_dr HB.out) _ | exact bl_dr (bl_al HB.out _)) hg3 (by first | exact HBZ1.out | (rw [World.size_alloc]; exact HBZ1.out) | (simp; exact HBZ1.out)) (fun q hq => (HO.out.lt q hq).1); have hc9 : w9.cell? ⟨b, o + k, none⟩ = some (.slice au ln cu) := (HB9.out.cell (p := ⟨b, o + k, none⟩) HLT.out).trans HCW.out; clear hown3 hg3))
        have HUX : Hid ((us ++ [(.slice au 40 cu : Value)]).length = k + 1 ∧ ∀ i, i < k + 1 → ∃ u, (us ++ [(.slice au 40 cu : Value)])[i]? = some u ∧ Sl .i64 w u ((cutL rows).getD i [])) := by
          refine ⟨by rw [List.length_append, HU.out.1]; rfl, fun i hi2 => ?_⟩
          by_cases e : i < k
          · obtain ⟨u, h1, h2⟩ := HU.out.2 i e
            exact ⟨u, by rw [List.getElem?_append_left (by rw [HU.out.1]; exact e)]; exact h1, h2⟩
          · obtain rfl : i = k := by omega
            refine ⟨.slice au 40 cu, by rw [List.getElem?_append_right (by rw [HU.out.1]; exact Nat.le_refl _), HU.out.1, Nat.sub_self]; rfl, ?_⟩
            rw [cutL_get (by omega) (by omega)]
            exact HSu.out.lo HGT.out
        clear hc hcd hc9
        go_wp2_with fail
        go_roundg g
        case measure => omega
        case rel => exact ⟨k + 1, _, by omega, by go_num, HO9, HUX, HB9⟩
end Go.Proofs.Ytllblmoojohffaa
