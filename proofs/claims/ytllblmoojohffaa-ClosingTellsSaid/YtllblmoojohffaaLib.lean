/- Predicates on slices of numbers that lie in memory, and how they pass from one world to a later one. No condition. -/
import Derived.Test.YtllblmoojohffaaRows
import Derived.WalkKit
import Derived.WalkSpells
import Derived.WalkLawsBesides
import Derived.Lib.Hide
import Derived.Outline
import Derived.Deep.LoopGhost
import Derived.ScopeJumps
namespace Go.Proofs.Ytllblmoojohffaa
open Go.RowKit

/-- The value v is a slice that reads in w as the numbers xs of kind k. -/
def Sl (k : IntKind) (w : World) (v : Value) (xs : List Int) : Prop :=
  ∃ ao cap, v = .slice ao xs.length cap ∧ xs.length ≤ cap ∧ (cap ≤ maxLen ∧ (ao = none → cap = 0)) ∧
    (xs ≠ [] → ∃ b o, ao = some ⟨b, o, none⟩ ∧ ∀ i, i < xs.length → w.cell? ⟨b, o + i, none⟩ = some (.int k (xs.getD i 0)))

theorem cell_block_lt {w : World} {b o : Nat} {v : Value} (h : w.cell? ⟨b, o, none⟩ = some v) : b < w.heap.size := World.block_lt_of_cell? w ⟨b, o, none⟩ h

theorem Sl.below {k : IntKind} {w w' : World} {v : Value} {xs : List Int} (h : Sl k w v xs) (hb : Below w.heap.size w w') : Sl k w' v xs := by
  obtain ⟨ao, cap, rfl, h1, h2, h3⟩ := h
  refine ⟨ao, cap, rfl, h1, h2, fun hx => ?_⟩
  obtain ⟨b, o, rfl, hc⟩ := h3 hx
  exact ⟨b, o, rfl, fun i hi => (hb.cell (p := ⟨b, o + i, none⟩) (cell_block_lt (hc i hi))).trans (hc i hi)⟩

/-- The k-th cell. -/
theorem Sl.at {k : IntKind} {w : World} {ao : Option Addr} {n cap : Nat} {xs : List Int} (h : Sl k w (.slice ao n cap) xs) {i : Nat} (hi : i < xs.length) :
    ∃ b o, ao = some ⟨b, o, none⟩ ∧ w.cell? ⟨b, o + i, none⟩ = some (.int k (xs.getD i 0)) := by
  obtain ⟨ao', cap', e, h1, h2, h3⟩ := h
  cases e
  obtain ⟨b, o, rfl, hc⟩ := h3 (by intro h; rw [h] at hi; simp at hi)
  exact ⟨b, o, rfl, hc i hi⟩

/-- What is appended from a slice of numbers, nil or not. -/
theorem Sl.news {k : IntKind} {w : World} {ao : Option Addr} {n cap : Nat} {xs : List Int} (h : Sl k w (.slice ao n cap) xs) :
    (∀ ad, ao = some ad → ∀ j u, (xs.map (Value.int k))[j]? = some u → w.cell? (ad.add j) = some u) := by
  intro ad had j u hu
  have hj : j < xs.length := by
    have := (List.getElem?_eq_some_iff.1 hu).1
    simpa using this
  obtain ⟨b, o, e, hc⟩ := h.at hj
  rw [e] at had
  obtain rfl := Option.some.inj had
  rw [Addr.add_lit, hc]
  have e1 : (xs.map (Value.int k))[j]? = some (.int k (xs.getD j 0)) := by simp [List.getD, hj]
  rw [e1] at hu
  exact hu
theorem Sl.get {k : IntKind} {w : World} {ao : Option Addr} {n cap : Nat} {xs : List Int} (h : Sl k w (.slice ao n cap) xs) {i : Nat} (hi : i < xs.length) :
    ∃ b o x, ao = some ⟨b, o, none⟩ ∧ w.cell? ⟨b, o + i, none⟩ = some (.int k x) ∧ Hid (xs.getD i 0 = x) := by
  obtain ⟨b, o, e, hc⟩ := h.at hi
  exact ⟨b, o, _, e, hc, rfl⟩
theorem Sl.none_cap {k : IntKind} {w : World} {ao : Option Addr} {n cap : Nat} {xs : List Int} (h : Sl k w (.slice ao n cap) xs) (e : ao = none) : n = 0 ∧ cap = 0 := by
  obtain ⟨ao', cap', e', h1, h2, h3⟩ := h
  cases e'
  have := h2.2 e
  omega
theorem Sl.none_len {k : IntKind} {w : World} {ao : Option Addr} {n cap : Nat} {xs : List Int} (h : Sl k w (.slice ao n cap) xs) (e : ao = none) : xs = [] := by
  cases xs with
  | nil => rfl
  | cons x xs =>
    obtain ⟨b, o, e', _⟩ := h.at (i := 0) (by simp)
    rw [e] at e'
    cases e'

theorem Sl.len {k : IntKind} {w : World} {ao : Option Addr} {n cap : Nat} {xs : List Int} (h : Sl k w (.slice ao n cap) xs) : n = xs.length ∧ n ≤ cap ∧ cap ≤ maxLen := by
  obtain ⟨ao', cap', e, h1, h2, h3⟩ := h
  cases e
  exact ⟨rfl, h1, h2.1⟩
theorem Sl.lo {k : IntKind} {w : World} {ao : Option Addr} {n cap t : Nat} {xs : List Int} (h : Sl k w (.slice ao n cap) xs) (ht : t ≤ n) : Sl k w (.slice ao t cap) (xs.take t) := by
  obtain ⟨hn, hc, hm⟩ := h.len
  have hl : (xs.take t).length = t := by rw [List.length_take]; omega
  refine ⟨ao, cap, by rw [hl], by omega, ⟨hm, fun e => (h.none_cap e).2⟩, fun hx => ?_⟩
  have hne : xs ≠ [] := by intro e; subst e; simp at hx
  obtain ⟨ao', cap', e, h1, h2, h3⟩ := h
  cases e
  obtain ⟨b, o, rfl, hcell⟩ := h3 hne
  refine ⟨b, o, rfl, fun i hi => ?_⟩
  rw [hcell i (by omega)]
  simp [List.getD, show i < t by omega]
theorem Sl.hi {k : IntKind} {w : World} {ao : Option Addr} {n cap t : Nat} {xs : List Int} (h : Sl k w (.slice ao n cap) xs) (ht : t ≤ n) :
    Sl k w (.slice (if cap = t then ao else Option.map (fun x => x.add t) ao) (n - t) (cap - t)) (xs.drop t) := by
  obtain ⟨hn, hc, hm⟩ := h.len
  have hl : (xs.drop t).length = n - t := by rw [List.length_drop]; omega
  refine ⟨_, cap - t, by rw [hl], by omega, ⟨by omega, fun e => ?_⟩, fun hx => ?_⟩
  · split at e
    · omega
    · have e' : ao = none := by cases ao <;> simp_all
      have := h.none_cap e'
      omega
  · have hlt : t < n := by
      have : 0 < (xs.drop t).length := List.length_pos_iff.2 hx
      omega
    obtain ⟨b, o, e, _⟩ := h.at (i := 0) (by omega)
    subst e
    rw [if_neg (by omega)]
    refine ⟨b, o + t, by simp [Addr.add_lit], fun i hi => ?_⟩
    obtain ⟨b', o', e', hcell⟩ := h.at (i := t + i) (by omega)
    cases e'
    rw [Nat.add_assoc, hcell]
    simp [List.getD, show t + i < xs.length by omega]
theorem grown_below1 {w w' : World} (h : w.grownBy w' none) : Below w.heap.size w w' := (Below.refl _ _).grown h (Nat.le_refl _) (by intro k hk; cases hk)

theorem bdN {B : Nat} {a w : World} (h : Below B a w) (n : Nat) : Below B a (w.drewN n) := ⟨h.os, h.tape, h.output, h.size, h.block⟩

theorem bl_tr {a b c : World} (h : Below a.heap.size a b) (k : Below b.heap.size b c) : Below a.heap.size a c := h.trans (k.mono h.size)
theorem bl_al {a b : World} (h : Below a.heap.size a b) (o : Obj) : Below a.heap.size a (b.alloc o) := h.alloc h.size o
theorem bl_dr {a b : World} (h : Below a.heap.size a b) : Below a.heap.size a b.drew := h.drew
theorem bl_dN {a b : World} (h : Below a.heap.size a b) (n : Nat) : Below a.heap.size a (b.drewN n) := bdN h n
/-- The call returns v and leaves the world as it was. -/
def Ret (v : Value) (w : World) (e : Ending) (w' : World) : Prop := e = .returned v ∧ w = w'
theorem Ret.mk (v : Value) (w : World) : Ret v w (.returned v) w := ⟨rfl, rfl⟩
/-- The call returns v and leaves all that was there as it was. -/
def RetB (v : Value) (w : World) (e : Ending) (w' : World) : Prop := e = .returned v ∧ Below w.heap.size w w'
theorem Ret.b {v : Value} {w : World} {e : Ending} {w' : World} (h : Ret v w e w') : RetB v w e w' := by
  obtain ⟨h1, h2⟩ := h; subst h2; exact ⟨h1, Below.refl _ _⟩

/-- Block g of w holds just these cells, of type e, and may be written. -/
def Blk (w : World) (g : Nat) (e : TypeId) (cur : List Value) : Prop := w.heap[g]? = some (.cells cur.toArray e (0, 0))
theorem Blk.lt {w : World} {g : Nat} {e : TypeId} {cur : List Value} (h : Blk w g e cur) : g < w.heap.size := (Array.getElem?_eq_some_iff.1 h).1
theorem Blk.cell {w : World} {g : Nat} {e : TypeId} {cur : List Value} (h : Blk w g e cur) (j : Nat) : w.cell? ⟨g, j, none⟩ = cur[j]? := by
  rw [cell_of_row w g j cur.toArray e (0, 0) h]; simp
theorem Blk.some {w : World} {g : Nat} {e : TypeId} {cur : List Value} (h : Blk w g e cur) {j : Nat} (hj : j < cur.length) : ∃ v, w.cell? ⟨g, j, none⟩ = some v := ⟨cur[j], by rw [h.cell]; simp [hj]⟩
theorem Blk.frozen {w : World} {g : Nat} {e : TypeId} {cur : List Value} (h : Blk w g e cur) (j : Nat) : w.frozen? ⟨g, j, none⟩ = false := frozen_of_row w g j cur.toArray e h
theorem Blk.set {w : World} {g : Nat} {e : TypeId} {cur : List Value} (h : Blk w g e cur) (j : Nat) (u : Value) : Blk (w.setCell ⟨g, j, none⟩ u) g e (cur.set j u) := by
  have := heap_setCell_same w g j cur.toArray e u h
  unfold Blk
  rw [this]
  simp
theorem Blk.below {w w' : World} {g : Nat} {e : TypeId} {cur : List Value} (h : Blk w g e cur) (hb : Below w.heap.size w w') : Blk w' g e cur := (hb.block g h.lt).trans h
theorem Blk.setOther {w : World} {g g' : Nat} {e : TypeId} {cur : List Value} (h : Blk w g e cur) (hne : g ≠ g') (j : Nat) (u : Value) : Blk (w.setCell ⟨g', j, none⟩ u) g e cur :=
  (heap_setCell_other w ⟨g', j, none⟩ g u (fun e => hne e)).trans h
theorem blk_of_own {w : World} {base : Nat} {e : TypeId} {size g n cap : Nat} {xs : List Value} (h : w.ownsRow base e size (.slice (some ⟨g, 0, none⟩) n cap) n xs) :
    ∃ cur, Blk w g e cur ∧ n ≤ cap ∧ cap ≤ maxLen ∧ cur.length = cap * size ∧ cur.take (n * size) = xs ∧ base ≤ g := by
  rcases h.2 with ⟨h', _⟩ | ⟨g', cap', cur, h', hb, hg, hnc, hcm, hcs, htake⟩
  · simp at h'
  · simp only [Value.slice.injEq, Option.some.injEq, Addr.mk.injEq, and_true, true_and] at h'
    obtain ⟨rfl, rfl⟩ := h'
    exact ⟨cur.toList, by simpa [Blk] using hg, hnc, hcm, by simpa using hcs, htake, hb⟩
/-- A slice over such a block. -/
theorem Sl.of_blk {k : IntKind} {w : World} {g cap n : Nat} {e : TypeId} {cur : List Value} {xs : List Int} (h : Blk w g e cur) (hn : xs.length = n) (hnc : n ≤ cap) (hcm : cap ≤ maxLen)
    (hx : cur.take n = xs.map (Value.int k)) : Sl k w (.slice (some ⟨g, 0, none⟩) n cap) xs := by
  subst hn
  refine ⟨_, _, rfl, hnc, ⟨hcm, fun h => by cases h⟩, fun _ => ⟨g, 0, rfl, fun i hi => ?_⟩⟩
  rw [h.cell]
  have e1 : (cur.take xs.length)[i]? = cur[0 + i]? := by simp [hi]
  rw [← e1, hx]
  simp [List.getD, hi]
theorem take_get {cur : List Value} {n : Nat} {l : List Int} {k : IntKind} (h : cur.take n = l.map (Value.int k)) {i : Nat} (hi : i < n) (hil : i < l.length := by omega) : cur[i]? = some (.int k (l.getD i 0)) := by
  have : (cur.take n)[i]? = cur[i]? := by simp [hi]
  rw [← this, h]
  simp [List.getD, hil]
/-- A slice with spare room behind it, in which known numbers lie. -/
def Sp (k : IntKind) (w : World) (v : Value) (xs sp : List Int) : Prop :=
  ∃ ao, v = .slice ao xs.length (xs.length + sp.length) ∧ Sl k w v xs ∧ Sl k w (.slice ao (xs.length + sp.length) (xs.length + sp.length)) (xs ++ sp)
theorem Sp.below {k : IntKind} {w w' : World} {v : Value} {xs sp : List Int} (h : Sp k w v xs sp) (hb : Below w.heap.size w w') : Sp k w' v xs sp := by
  obtain ⟨ao, rfl, h1, h2⟩ := h
  exact ⟨ao, rfl, h1.below hb, h2.below hb⟩

theorem own_shape {w : World} {base : Nat} {e : TypeId} {size n : Nat} {v : Value} {xs : List Value} (h : w.ownsRow base e size v n xs) (hn : 0 < n) :
    ∃ g cap, v = .slice (some ⟨g, 0, none⟩) n cap := by
  rcases h.2 with ⟨_, h0⟩ | ⟨g, cap, cur, hv, _⟩
  · omega
  · exact ⟨g, cap, hv⟩
theorem own_base {w : World} {base base' : Nat} {e : TypeId} {size n : Nat} {v : Value} {xs : List Value} (h : w.ownsRow base e size v n xs) (hb : base' ≤ base) : w.ownsRow base' e size v n xs := by
  obtain ⟨h1, h2⟩ := h
  refine ⟨h1, ?_⟩
  rcases h2 with h2 | ⟨g, cap, cur, hv, hg, r⟩
  · exact Or.inl h2
  · exact Or.inr ⟨g, cap, cur, hv, by omega, r⟩
theorem own_dN {w : World} {base : Nat} {e : TypeId} {size n : Nat} {v : Value} {xs : List Value} (h : w.ownsRow base e size v n xs) (k : Nat) : (w.drewN k).ownsRow base e size v n xs := h
theorem own_of_blk {w : World} {base : Nat} {e : TypeId} {size g n cap : Nat} {cur xs : List Value} (h : Blk w g e cur) (hg : base ≤ g) (hn : n ≤ cap) (hm : cap ≤ maxLen) (hl : cur.length = cap * size) (hx : cur.take (n * size) = xs) :
    w.ownsRow base e size (.slice (some ⟨g, 0, none⟩) n cap) n xs := by
  refine ⟨?_, .inr ⟨g, cap, cur.toArray, rfl, hg, h, hn, hm, by simpa using hl, by simpa using hx⟩⟩
  rw [← hx, List.length_take, hl]
  exact Nat.min_eq_left (Nat.mul_le_mul_right _ hn)
theorem Sl.of_own {k : IntKind} {w : World} {base : Nat} {e : TypeId} {v : Value} {n : Nat} {xs : List Int} (h : w.ownsRow base e 1 v n (xs.map (Value.int k))) (hn : xs.length = n) : Sl k w v xs := by
  rcases h.2 with ⟨rfl, rfl⟩ | ⟨g, cap, cur, rfl, hb, hg, hnc, hcm, hcs, htake⟩
  · obtain rfl : xs = [] := List.eq_nil_of_length_eq_zero hn
    exact ⟨none, 0, rfl, Nat.le_refl _, ⟨by simp [maxLen], fun _ => rfl⟩, fun h => absurd rfl h⟩
  · exact Sl.of_blk (cur := cur.toList) (by simpa [Blk] using hg) hn hnc hcm (by simpa using htake)
theorem one_in_grown_drew {w w' : World} {x : Value} {t : TypeId} {r : Option Nat} (h : (w.alloc (.cells #[x] t)).drew.grownBy w' r) (hr : r = none) : ∀ j u, [x][j]? = some u → w'.cell? ((⟨w.heap.size, 0, none⟩ : Addr).add j) = some u := by
  intro j u hu
  subst hr
  exact h.cell (cell_one_new w x t j u hu) (by simp)
theorem one_in_grown {w w' : World} {x : Value} {t : TypeId} (h : (w.alloc (.cells #[x] t)).grownBy w' none) : ∀ j u, [x][j]? = some u → w'.cell? ((⟨w.heap.size, 0, none⟩ : Addr).add j) = some u := by
  intro j u hu
  exact h.cell (cell_one_new w x t j u hu) (by simp)
theorem Sl.alloc {k : IntKind} {w : World} {v : Value} {xs : List Int} (h : Sl k w v xs) (o : Obj) : Sl k (w.alloc o) v xs := h.below ((Below.refl _ _).alloc (Nat.le_refl _) o)
/-- A literal. -/
theorem Sl.lit {k : IntKind} (w : World) (e : TypeId) (xs : List Int) (n : Nat) (hn : xs.length = n) (cs : Array Value) (hc : cs = (xs.map (Value.int k)).toArray) (hm : n ≤ maxLen) :
    Sl k (w.alloc (.cells cs e)) (.slice (some ⟨w.heap.size, 0, none⟩) n n) xs := by
  subst hc
  refine Sl.of_blk (cur := xs.map (Value.int k)) (e := e) (heap_alloc_new w _) hn (Nat.le_refl _) hm ?_
  rw [List.take_of_length_le (by simp [hn])]
theorem Sl.litAt {k : IntKind} (w : World) (e : TypeId) (xs : List Int) (n g : Nat) (hn : xs.length = n) (cs : Array Value) (hc : cs = (xs.map (Value.int k)).toArray) (hm : n ≤ maxLen) (hg : w.heap.size = g) :
    Sl k (w.alloc (.cells cs e)) (.slice (some ⟨g, 0, none⟩) n n) xs := by
  subst hg
  exact Sl.lit w e xs n hn cs hc hm
/-- The call returns a slice that reads as xs, and leaves all that was there as it was. -/
def RetSl (k : IntKind) (xs : List Int) (w : World) (e : Ending) (w' : World) : Prop := ∃ u, e = .returned u ∧ Sl k w' u xs ∧ Below w.heap.size w w'
/-- A scope in which the run jumps back to one label: what holds at the label, and a number that each pass lowers. What a jump must bring stands behind a variable. -/
theorem wp_scope_back {P : Program} {a : Act} {w : World} {Q : Exit → Act → World → Prop} {c rest : Code} (l : Nat) (J : Act → World → Prop) (μ : Act → World → Nat) (hf : findLabel c l = some (Code.seq .skip rest))
    (pass : ∀ a w, J a w → ∀ (J' : Act → World → Prop), (∀ a' w', J a' w' → μ a' w' < μ a w → J' a' w') → rest.wp P (Exit.jump l J' Q) a w)
    (first : ∀ (J' : Act → World → Prop), (∀ a w, J a w → J' a w) → (∀ a w, J a w → rest.wp P (Exit.jump l J' Q) a w) → c.wp P (Exit.jump l J' Q) a w) : (Code.scope c).wp P Q a w := by
  refine wp_scope_jumps l J μ hf (first J (fun _ _ h => h) fun a w hJ => pass a w hJ J fun _ _ h _ => h) (fun a w hJ => wp_seq (wp_skip (pass a w hJ _ fun _ _ h hlt => ⟨h, hlt⟩)))
theorem Sp.sl {k : IntKind} {w : World} {v : Value} {xs sp : List Int} (h : Sp k w v xs sp) : Sl k w v xs := h.choose_spec.2.1
/-- What the shells tell of a slice of numbers that came in. -/
theorem sl_of_row {k : IntKind} {w : World} {a : Option Addr} {len cap : Nat} {zs : List Int}
    (h : (a = none ∧ len = 0 ∧ cap = 0 ∧ zs = []) ∨ ∃ x, a = some x ∧ len ≤ cap ∧ cap ≤ maxLen ∧ zs.length = cap ∧ (∀ i, i < zs.length → w.cell? (x.add i) = some (.int k (zs.getD i 0))) ∧ ∀ n ∈ zs, (Lit.int k n).wf = true) :
    Sl k w (.slice a len cap) (zs.take len) ∧ ∀ n ∈ zs.take len, (Lit.int k n).wf = true := by
  rcases h with ⟨rfl, rfl, rfl, rfl⟩ | ⟨x, rfl, hl, hm, hz, hc, hw⟩
  · exact ⟨⟨none, 0, rfl, Nat.le_refl _, ⟨by simp [maxLen], fun _ => rfl⟩, fun h => absurd rfl h⟩, by simp⟩
  · have hlen : (zs.take len).length = len := by rw [List.length_take]; omega
    refine ⟨⟨some x, cap, by rw [hlen], by omega, ⟨hm, fun e => by cases e⟩, fun hne => ?_⟩, fun n hn => hw n (List.mem_of_mem_take hn)⟩
    have h0 : 0 < len := by
      have := List.length_pos_iff.2 hne
      omega
    have hspot : x.spot = none := by
      have h1 := hc 0 (by omega)
      have e : x.add 0 = x := by simp [Addr.add]
      rw [e] at h1
      unfold World.cell? at h1
      split at h1
      · split at h1
        · cases h1
        · rename_i hs
          simpa using hs
      · cases h1
    obtain ⟨b, o, sp⟩ := x
    simp only at hspot
    subst hspot
    refine ⟨b, o, rfl, fun i hi => ?_⟩
    have h1 := hc i (by omega)
    rw [Addr.add_lit] at h1
    rw [h1]
    simp [List.getD, show i < len by omega]
theorem ret_bool {a b : Bool} (h : a = b) : Ending.returned (.bool a) = .returned (.bool b) := by rw [h]
theorem ret_int {k : IntKind} {a b : Int} (h : a = b) : Ending.returned (.int k a) = .returned (.int k b) := by rw [h]
end Go.Proofs.Ytllblmoojohffaa
