/- lombardhelp.Own and Kept at api.Tranche: a copy with spare room behind it; whether it, and the room, is as it was. -/
import Derived.Test.YtdjfpbjlmojikaaSameT
import Derived.Test.YtdjfpbjlmojikaaLaw06
import Derived.Deep.QuietTactic
import Derived.BigQuiet
namespace Go.Proofs.Ytdjfpbjlmojikaa
open Go.RowKit
attribute [local go_sem] tr_guard

theorem cells2_length (ts : List (Int × Bool)) : (cells2 ts).length = ts.length * 2 := by
  induction ts with
  | nil => rfl
  | cons x ts ih => simp only [cells2, List.flatMap_cons, List.length_append, List.length_cons, List.length_nil] at ih ⊢; omega
theorem cells2_append (a b : List (Int × Bool)) : cells2 (a ++ b) = cells2 a ++ cells2 b := by simp [cells2]
theorem cells2_one (ts : List (Int × Bool)) : ∀ u ∈ cells2 ts, u.oneCell' = true := by
  intro u hu
  simp only [cells2, List.mem_flatMap] at hu
  obtain ⟨x, _, hu⟩ := hu
  simp only [List.mem_cons, List.not_mem_nil, or_false] at hu
  rcases hu with rfl | rfl <;> rfl
theorem TrS.none_cap {w : World} {ao : Option Addr} {n cap : Nat} {ts : List (Int × Bool)} (h : TrS w (.slice ao n cap) ts) (e : ao = none) : n = 0 ∧ cap = 0 := by
  obtain ⟨ao', cap', e', h1, h2, h3⟩ := h
  cases e'
  have := h2.2 e
  omega
theorem TrS.news {w : World} {ao : Option Addr} {n cap : Nat} {ts : List (Int × Bool)} (h : TrS w (.slice ao n cap) ts) : ∀ ad, ao = some ad → ∀ j u, (cells2 ts)[j]? = some u → w.cell? (ad.add j) = some u := by
  intro ad had j u hu
  have hj : j < ts.length * 2 := by
    have := (List.getElem?_eq_some_iff.1 hu).1
    rw [cells2_length] at this
    exact this
  have hi : j / 2 < ts.length := by omega
  obtain ⟨b, o, x, g, e, c0, c1, hx⟩ := h.get hi
  rw [e] at had
  obtain rfl := Option.some.inj had
  obtain ⟨q0, q1⟩ := cells2_get ts hi
  rw [hx.out] at q0 q1
  have h2 : j = j / 2 * 2 ∨ j = j / 2 * 2 + 1 := by omega
  rw [Addr.add_lit]
  rcases h2 with h2 | h2
  · rw [h2] at hu ⊢
    rw [q0] at hu
    rw [c0]
    exact hu
  · rw [h2] at hu ⊢
    rw [q1] at hu
    rw [← Nat.add_assoc, c1]
    exact hu
/-- A slice of tranches with three like it in the room behind. -/
def TSp (w : World) (v : Value) (ts : List (Int × Bool)) (f : Int × Bool) : Prop :=
  ∃ ao, v = .slice ao ts.length (ts.length + 3) ∧ TrS w v ts ∧ TrS w (.slice ao (ts.length + 3) (ts.length + 3)) (ts ++ [f, f, f])
theorem TSp.below {w w' : World} {v : Value} {ts : List (Int × Bool)} {f : Int × Bool} (h : TSp w v ts f) (hb : Below w.heap.size w w') : TSp w' v ts f := by
  obtain ⟨ao, rfl, h1, h2⟩ := h
  exact ⟨ao, rfl, h1.below hb, h2.below hb⟩
theorem take_set2 {cur : List Value} {k : Nat} {xs : List (Int × Bool)} {x : Int} {g : Bool} (h : cur.take (k * 2) = cells2 (xs ++ List.replicate (k - xs.length) (x, g))) (hk : k * 2 + 1 < cur.length) (hx : xs.length ≤ k) :
    ((cur.set (k * 2) (.int .i64 x)).set (k * 2 + 1) (.bool g)).take ((k + 1) * 2) = cells2 (xs ++ List.replicate (k + 1 - xs.length) (x, g)) := by
  have e : k + 1 - xs.length = (k - xs.length) + 1 := by omega
  have e2 : (k + 1) * 2 = k * 2 + 1 + 1 := by omega
  rw [e, e2, List.replicate_succ', List.take_succ_eq_append_getElem (by simp; omega), List.take_succ_eq_append_getElem (by simp; omega)]
  rw [List.take_set_of_le (by omega), List.take_set_of_le (Nat.le_refl _), h]
  simp [cells2]

set_option maxHeartbeats 800000 in
theorem ownT_any (v : Value) (xs : List (Int × Bool)) (x : Int) (g : Bool) (w : World) (hv : TrS w v xs) (hn : xs.length ≤ 1000) :
    Calls Try.prog 23 #[v, .agg #[.int .i64 x, .bool g]] w (fun e w' => ∃ u, e = .returned u ∧ TSp w' u xs (x, g) ∧ Below w.heap.size w w') := by
  have hb0 : Below w.heap.size w (w.alloc (.cells #[.int .i64 x, .bool g] 23)) := (by repeat (first | with_reducible exact Below.refl _ _ | (with_reducible refine bl_sc ?_ ?hge; case hge => (first | exact Nat.le_refl _ | omega)) | with_reducible refine bl_al ?_ _ | with_reducible refine bl_dr ?_ | with_reducible refine bl_dN ?_ _ | (refine bl_tr ?_ (by assumption)) | (refine bl_gr ?_ (by assumption) (by first | exact Nat.le_refl _ | omega)) | exact Below.refl _ _ | refine bl_al ?_ _ | refine bl_dr ?_ | refine bl_dN ?_ _))
  have HV := Lib.hid (hv.below hb0)
  obtain ⟨ao, cap, rfl, h1, h2, h3⟩ := hv
  obtain ⟨h2, _⟩ := h2
  unfold maxLen at h2
  clear h3
  obtain ⟨i0, hi, hz0, hz1, hz2⟩ := info_parts info_tr
  go_enter Try.func23, Try.ntmps23
  go_wp2_with (first
    | (at_make; refine wpList_make_own _ rfl _ _ 24 rfl (w.heap.size + 1) 23 i0 (.agg #[.int .i64 0, .bool false]) 2 Try.underlying24 hi hz0 hz1 _ _ _ (xs.length + 3) rfl rfl (by omega) (by rw [hz2]; omega) (by unfold maxLen; omega) (by simp) ?_; intro w1 hown1 hgrow1; simp only [World.size_alloc] at hown1)
    | (at_builtin; refine wpList_append_fits_any _ rfl (.tmp 12) (.tmp 13) 24 rfl (w.heap.size + 1) 23 i0 2 Try.underlying24 hi hz1 (w.heap.size + 1) 0 (xs.length + 3) [] rfl hown1 ao xs.length cap (cells2 xs) rfl (cells2_length xs) HV.out.none_cap (HV.out.below (grown_below1 hgrow1)).news (cells2_one _) (by omega) ?_; intro w2 hown2 hgrow2; simp only [Nat.zero_add, List.nil_append] at hown2))
  obtain ⟨cur, hB, _, _, hcl, hct, _⟩ := blk_of_own hown2
  have hbx1 : Below (w.heap.size + 1) (w.alloc (.cells #[.int .i64 x, .bool g] 23)) w1 := (grown_below1 hgrow1).mono (by simp)
  have hs1 := hbx1.size
  simp only [World.size_alloc] at hs1
  have hbx2 : Below (w.heap.size + 1) (w.alloc (.cells #[.int .i64 x, .bool g] 23)) w2 := hbx1.grown hgrow2 hs1 (fun k hk => by cases hk; exact Nat.le_refl _)
  have hF : Blk (w.alloc (.cells #[.int .i64 x, .bool g] 23)) w.heap.size 23 [.int .i64 x, .bool g] := heap_alloc_new w _
  have HF := Lib.hid hF
  clear hown1 hown2 hgrow1 hgrow2 hF
  have HB := Lib.hid hB
  have HL := Lib.hid hcl
  have HT := Lib.hid hct
  clear hB hcl hct
  go_loopw [7] (fun i wr => ∃ k : Nat, xs.length ≤ k ∧ k ≤ xs.length + 3 ∧ i = .int .i64 k ∧ (∃ cur', Blk wr (w.heap.size + 1) 23 cur' ∧ cur'.length = (xs.length + 3) * 2 ∧ cur'.take (k * 2) = cells2 (xs ++ List.replicate (k - xs.length) (x, g))) ∧ Below (w.heap.size + 1) (w.alloc (.cells #[.int .i64 x, .bool g] 23)) wr)
    (fun i _ => xs.length + 3 - (intOf i).toNat)
  case atStart => exact ⟨xs.length, Nat.le_refl _, by omega, rfl, ⟨cur, HB.out, by have := HL.out; omega, by have := HT.out; simpa using this⟩, hbx2⟩
  case round =>
    obtain ⟨k, hk0, hk, rfl, ⟨cur', hB', hL', hT'⟩, hbx⟩ := hrel
    by_cases hlt : k < xs.length + 3
    · have hF' := Blk.below HF.out (hbx.mono (by simp))
      have e0 : wr.cell? ⟨w.heap.size, 0, none⟩ = some (.int .i64 x) := hF'.cell 0
      have e1 : wr.cell? ⟨w.heap.size, 1, none⟩ = some (.bool g) := hF'.cell 1
      obtain ⟨v0, hcell⟩ := hB'.some (j := k * 2) (by omega)
      obtain ⟨v1, hcell1⟩ := hB'.some (j := k * 2 + 1) (by omega)
      have hfz := hB'.frozen (k * 2)
      have hfz1 := hB'.frozen (k * 2 + 1)
      have X := Lib.hid (And.intro hB' (And.intro hL' hT'))
      clear hB' hL' hT' hF'
      go_wp2
      go_roundw
      case rel =>
        obtain ⟨hB', hL', hT'⟩ := X.out
        refine ⟨k + 1, by omega, by omega, by go_num, ⟨_, (hB'.set (k * 2) (.int .i64 x)).set (k * 2 + 1) (.bool g), by simpa using hL', ?_⟩, (hbx.setCell (Nat.le_refl _) _).setCell (Nat.le_refl _) _⟩
        exact take_set2 hT' (by omega) (by omega)
      case measure => simp [intOf]; omega
    · obtain rfl : xs.length + 3 = k := by omega
      have hbw : Below w.heap.size w wr := hb0.trans (hbx.mono (by omega))
      go_wp2
      go_ret
      have e3 : xs.length + 3 - xs.length = 3 := by omega
      rw [e3] at hT'
      refine ⟨_, rfl, ⟨_, rfl, TrS.of_blk hB' rfl (by omega) (by unfold maxLen; omega) ?_, TrS.of_blk hB' (by simp) (Nat.le_refl _) (by unfold maxLen; omega) (by simpa using hT')⟩, hbw⟩
      have : cur'.take (xs.length * 2) = (cur'.take ((xs.length + 3) * 2)).take (xs.length * 2) := by rw [List.take_take]; congr 1; omega
      rw [this, hT', cells2_append, List.take_append_of_le_length (by rw [cells2_length]; omega), List.take_of_length_le (by rw [cells2_length]; omega)]

set_option maxHeartbeats 800000 in
theorem keptT_true (v u : Value) (xs : List (Int × Bool)) (x : Int) (g : Bool) (w : World) (hv : TSp w v xs (x, g)) (hu : TrS w u xs) (hn : xs.length ≤ 1000) :
    Calls Try.prog 31 #[v, u, .agg #[.int .i64 x, .bool g]] w (RetB (.bool true) w) := by
  obtain ⟨ao, rfl, hs, hf⟩ := hv
  have hb0 : Below w.heap.size w (w.alloc (.cells #[.int .i64 x, .bool g] 23)) := (by repeat (first | with_reducible exact Below.refl _ _ | (with_reducible refine bl_sc ?_ ?hge; case hge => (first | exact Nat.le_refl _ | omega)) | with_reducible refine bl_al ?_ _ | with_reducible refine bl_dr ?_ | with_reducible refine bl_dN ?_ _ | (refine bl_tr ?_ (by assumption)) | (refine bl_gr ?_ (by assumption) (by first | exact Nat.le_refl _ | omega)) | exact Below.refl _ _ | refine bl_al ?_ _ | refine bl_dr ?_ | refine bl_dN ?_ _))
  have HS := Lib.hid (hs.below hb0)
  have HF := Lib.hid (hf.below hb0)
  have HU := Lib.hid (hu.below hb0)
  clear hs hf
  obtain ⟨ao', cap', rfl, h1', _, _⟩ := hu
  have hcapb : decide (((xs.length + 3 : Nat) : Int) < (xs.length : Int) + 3) = false := by simp
  have hq : Blk (w.alloc (.cells #[.int .i64 x, .bool g] 23)) w.heap.size 23 [.int .i64 x, .bool g] := heap_alloc_new w _
  have HQ := Lib.hid hq
  clear hq
  have hne : ∀ W : World, (binOp .neq 23 (.agg #[.int .i64 x, .bool g]) (.agg #[.int .i64 x, .bool g])).run Try.prog W = .ok (.bool false) W := fun W => by rw [tr_neq]; simp
  go_enter Try.func31, Try.ntmps31
  go_wp2_with (go_at_call 45; refine (plainT_any _ _ xs xs true (Lib.hid (by simp)) _ HS.out HU.out).mono ?_; rintro e w1 ⟨rfl, hb⟩)
  have hbw1 : Below w.heap.size w w1 := bl_tr hb0 hb
  have hq1 := HQ.out.below hb
  have HF1 := Lib.hid (HF.out.below hb)
  have c0 : w1.cell? ⟨w.heap.size, 0, none⟩ = some (.int .i64 x) := hq1.cell 0
  have c1 : w1.cell? ⟨w.heap.size, 1, none⟩ = some (.bool g) := hq1.cell 1
  clear hq1
  go_loopw [8] (fun i wr => ∃ k : Nat, xs.length ≤ k ∧ k ≤ xs.length + 3 ∧ i = .int .i64 k ∧ ∃ nq, wr = w1.drewN nq) (fun i _ => xs.length + 3 - (intOf i).toNat)
  case atStart => exact ⟨xs.length, Nat.le_refl _, by omega, rfl, 0, rfl⟩
  case round =>
    obtain ⟨k, hk0, hk, rfl, nq, rfl⟩ := hrel
    by_cases hlt : k < xs.length + 3
    · obtain ⟨b, o, x', g', rfl, f0, f1, HX⟩ := HF1.out.get (i := k) (by simpa using hlt)
      have e : (xs ++ [(x, g), (x, g), (x, g)]).getD k (0, false) = (x, g) := by
        have h3 : k - xs.length = 0 ∨ k - xs.length = 1 ∨ k - xs.length = 2 := by omega
        rw [List.getD_eq_getElem?_getD, List.getElem?_append_right hk0]
        rcases h3 with h | h | h <;> rw [h] <;> rfl
      have hx := HX.out
      rw [e] at hx
      simp only [Prod.mk.injEq] at hx
      obtain ⟨rfl, rfl⟩ := hx
      have hk00 : (0 : Int) ≤ (k : Int) := by omega
      have hk1 : (k : Int) < (xs.length : Int) + 3 := by omega
      clear e HX
      go_wp2_with fail
      go_quiet (fail)
      go_wp2
      exact ⟨⟨k + 1, by omega, by omega, by go_num, _, rfl⟩, by simp [intOf]; omega⟩
    · obtain rfl : xs.length + 3 = k := by omega
      go_wp2
      go_ret
      exact ⟨rfl, bdN hbw1 _⟩
end Go.Proofs.Ytdjfpbjlmojikaa
