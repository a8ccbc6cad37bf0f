/- lombardhelp.Own at int64: the copy is a new block, known whole. -/
import Derived.Test.YtbiiejolemcifaaOwn64
namespace Go.Proofs.Ytbiiejolemcifaa
open Go.RowKit

/-- A copy in a new block, with three more behind it. -/
def OwnNew (w : World) (xs : List Int) (x : Int) (e : Ending) (w' : World) : Prop :=
  e = .returned (.slice (some ⟨w.heap.size, 0, none⟩) xs.length (xs.length + 3)) ∧ Blk w' w.heap.size 2 ((xs ++ [x, x, x]).map (Value.int .i64)) ∧ Below w.heap.size w w'
theorem blk_sp {w : World} {g : Nat} {xs : List Int} {x : Int} (h : Blk w g 2 ((xs ++ [x, x, x]).map (Value.int .i64))) (hn : xs.length ≤ 1000) : Sp .i64 w (.slice (some ⟨g, 0, none⟩) xs.length (xs.length + 3)) xs [x, x, x] :=
  ⟨_, rfl, Sl.of_blk h rfl (by omega) (by unfold maxLen; omega) (by simp), Sl.of_blk h (by simp) (Nat.le_refl _) (by unfold maxLen; simp; omega) (List.take_of_length_le (by simp))⟩
set_option maxHeartbeats 400000 in
theorem own64_new (v : Value) (xs : List Int) (x : Int) (w : World) (hv : Sl .i64 w v xs) (hn : xs.length ≤ 1000) :
    Calls Try.prog 20 #[v, .int .i64 x] w (OwnNew w xs x) := by
  have HV := Lib.hid hv
  obtain ⟨ao, cap, rfl, h1, h2, h3⟩ := hv
  obtain ⟨h2, _⟩ := h2
  unfold maxLen at h2
  clear h3
  obtain ⟨i0, hi, hz0, hz1, hz2⟩ := info_parts info_own64
  go_enter Try.func20, Try.ntmps20
  go_wp2_with (first
    | (at_make; refine wpList_make_own _ rfl _ _ 23 rfl w.heap.size 2 i0 (.int .i64 0) 1 Try.underlying23 hi hz0 hz1 _ _ _ (xs.length + 3) rfl rfl (by omega) (by rw [hz2]; omega) (by unfold maxLen; omega) (Nat.le_refl _) ?_; intro w1 hown1 hgrow1)
    | (at_builtin; refine wpList_append_fits_any _ rfl (.tmp 12) (.tmp 13) 23 rfl w.heap.size 2 i0 1 Try.underlying23 hi hz1 w.heap.size 0 (xs.length + 3) [] rfl hown1 ao xs.length cap (xs.map (Value.int .i64)) rfl (by simp) HV.out.none_cap (HV.out.below (grown_below1 hgrow1)).news (ints_oneCell _ _) (by omega) ?_; intro w2 hown2 hgrow2; simp only [Nat.zero_add, List.nil_append] at hown2))
  obtain ⟨cur, hB, _, _, hcl, hct, _⟩ := blk_of_own hown2
  have hb2 : Below w.heap.size w w2 := (grown_below1 hgrow1).grown hgrow2 hgrow1.size (fun k hk => by cases hk; exact Nat.le_refl _)
  clear hown1 hown2 hgrow1 hgrow2
  have HB := Lib.hid hB
  have HL := Lib.hid hcl
  have HT := Lib.hid hct
  clear hB hcl hct
  go_loopw [7] (fun i wr => ∃ k : Nat, xs.length ≤ k ∧ k ≤ xs.length + 3 ∧ i = .int .i64 k ∧ (∃ cur', Blk wr w.heap.size 2 cur' ∧ cur'.length = xs.length + 3 ∧ cur'.take k = (xs ++ List.replicate (k - xs.length) x).map (Value.int .i64)) ∧ Below w.heap.size w wr)
    (fun i _ => xs.length + 3 - (intOf i).toNat)
  case atStart => exact ⟨xs.length, Nat.le_refl _, by omega, rfl, ⟨cur, HB.out, by have := HL.out; omega, by have := HT.out; simpa using this⟩, hb2⟩
  case round =>
    obtain ⟨k, hk0, hk, rfl, ⟨cur', hB', hL', hT'⟩, hb⟩ := hrel
    by_cases hlt : k < xs.length + 3
    · obtain ⟨v0, hcell⟩ := hB'.some (j := k) (by omega)
      have hfz := hB'.frozen k
      have X := Lib.hid (And.intro hB' (And.intro hL' hT'))
      clear hB' hL' hT'
      go_wp2
      go_roundw
      case rel =>
        obtain ⟨hB', hL', hT'⟩ := X.out
        refine ⟨k + 1, by omega, by omega, by go_num, ⟨_, hB'.set k (.int .i64 x), by simpa using hL', ?_⟩, hb.setCell (Nat.le_refl _) _⟩
        exact take_set_push hT' (by omega) (by omega)
      case measure => simp [intOf]; omega
    · obtain rfl : xs.length + 3 = k := by omega
      go_wp2
      go_ret
      have e3 : xs.length + 3 - xs.length = 3 := by omega
      rw [e3] at hT'
      refine ⟨rfl, ?_, hb⟩
      have e4 : cur' = (xs ++ [x, x, x]).map (Value.int .i64) := by
        rw [List.take_of_length_le (by omega)] at hT'
        simpa using hT'
      rw [← e4]
      exact hB'
end Go.Proofs.Ytbiiejolemcifaa
