/- lombardlaw06: what a program that does nothing does not answer; TermsBounds. -/
import Derived.Test.YtdjfpbjlmojikaaTermsPack
namespace Go.Proofs.Ytdjfpbjlmojikaa
open Go.RowKit

/-- the cells of tranches -/
def cells2 (ts : List (Int × Bool)) : List Value := ts.flatMap fun x => [.int .i64 x.1, .bool x.2]
theorem cells2_get (ts : List (Int × Bool)) {i : Nat} (hi : i < ts.length) : (cells2 ts)[i * 2]? = some (.int .i64 (ts.getD i (0, false)).1) ∧ (cells2 ts)[i * 2 + 1]? = some (.bool (ts.getD i (0, false)).2) := by
  induction ts generalizing i with
  | nil => simp at hi
  | cons x ts ih =>
    cases i with
    | zero => exact ⟨rfl, rfl⟩
    | succ i =>
      have := ih (i := i) (by simpa using hi)
      have e1 : (i + 1) * 2 = i * 2 + 2 := by omega
      have e2 : (i + 1) * 2 + 1 = i * 2 + 1 + 2 := by omega
      rw [e2, e1]
      simpa [cells2] using this
theorem TrS.of_blk {w : World} {g cap n : Nat} {e : TypeId} {cur : List Value} {ts : List (Int × Bool)} (h : Blk w g e cur) (hn : ts.length = n) (hnc : n ≤ cap) (hcm : cap ≤ maxLen)
    (hx : cur.take (n * 2) = cells2 ts) : TrS w (.slice (some ⟨g, 0, none⟩) n cap) ts := by
  subst hn
  refine ⟨_, _, rfl, hnc, ⟨hcm, fun h => by cases h⟩, fun _ => ⟨g, 0, rfl, fun i hi => ?_⟩⟩
  obtain ⟨h1, h2⟩ := cells2_get ts hi
  rw [h.cell, h.cell, ← h1, ← h2, ← hx]
  constructor
  · rw [List.getElem?_take, if_pos (by omega), Nat.zero_add]
  · rw [List.getElem?_take, if_pos (by omega), Nat.zero_add]
theorem TrS.litAt (w : World) (e : TypeId) (ts : List (Int × Bool)) (n g : Nat) (hn : ts.length = n) (cs : Array Value) (hc : cs = (cells2 ts).toArray) (hm : n ≤ maxLen) (hg : w.heap.size = g) :
    TrS (w.alloc (.cells cs e)) (.slice (some ⟨g, 0, none⟩) n n) ts := by
  subst hc hg
  refine TrS.of_blk (cur := cells2 ts) (e := e) (heap_alloc_new w _) hn (Nat.le_refl _) hm ?_
  have : (cells2 ts).length = n * 2 := by
    subst hn
    clear hm
    induction ts with
    | nil => rfl
    | cons x ts ih => simp only [cells2, List.flatMap_cons, List.length_append, List.length_cons, List.length_nil] at ih ⊢; omega
  rw [List.take_of_length_le (by omega)]
theorem TrS.nil (w : World) : TrS w (.slice none 0 0) [] := ⟨none, 0, rfl, Nat.le_refl _, ⟨by simp [maxLen], fun _ => rfl⟩, fun h => absurd rfl h⟩

theorem info_tr : (Try.prog.info? 23).map (fun i => (i.zero, i.size, i.bytes)) = some (some (.agg #[.int .i64 0, .bool false]), 2, 16) := by kernel_rfl

theorem TrS.last {w0 w1 : World} {cs : Array Value} {e : TypeId} (ts : List (Int × Bool)) (n : Nat) (hb : Below (w0.alloc (.cells cs e)).heap.size (w0.alloc (.cells cs e)) w1) (hc : cs = (cells2 ts).toArray) (hn : ts.length = n) (hm : n ≤ maxLen) {g : Nat} (hg : w0.heap.size = g) :
    TrS w1 (.slice (some ⟨g, 0, none⟩) n n) ts := (TrS.litAt w0 e ts n g hn cs hc hm hg).below hb

set_option maxHeartbeats 400000 in
theorem awake6_any (w : World) : Calls Try.prog 11 #[] w (RetB (.bool true) w) := by
  go_enter Try.func11, Try.ntmps11
  go_wp2_with fail
  refine (termsPack_any _ [(0, false)] 0 1 1 0 0 0 _ (TrS.litAt w _ [(0, false)] 1 _ rfl _ rfl (by decide) rfl)).mono ?_
  rintro e w1 ⟨u1, rfl, hs1, hb1⟩
  have e1 : packR 0 [(0, false)] 1 1 0 0 0 = (packT 0 [(0, false)] 1 1 0 0 0, 0) := by decide
  rw [e1] at hs1 ⊢
  clear e1
  have hl : (packT 0 [(0, false)] 1 1 0 0 0).length = 65 := rfl
  obtain ⟨ao, cap, rfl, _, _, _⟩ := hs1
  simp only [hl]
  have hb2 : Below w.heap.size w w1 := bl_tr (bl_al (Below.refl _ _) _) hb1
  go_wp2_with fail
  refine (termsRight_any _ [] 0 0 0 0 0 0 6 (Lib.hid (by decide)) _ (TrS.nil _)).mono ?_
  rintro e w2 ⟨rfl, hb3⟩
  go_wp2_with fail
  go_ret
  exact ⟨rfl, (by repeat (first | with_reducible exact Below.refl _ _ | (with_reducible refine bl_sc ?_ ?hge; case hge => (first | exact Nat.le_refl _ | omega)) | with_reducible refine bl_al ?_ _ | with_reducible refine bl_dr ?_ | with_reducible refine bl_dN ?_ _ | (refine bl_tr ?_ (by assumption)) | (refine bl_gr ?_ (by assumption) (by first | exact Nat.le_refl _ | omega)) | exact Below.refl _ _ | refine bl_al ?_ _ | refine bl_dr ?_ | refine bl_dN ?_ _))⟩
end Go.Proofs.Ytdjfpbjlmojikaa
