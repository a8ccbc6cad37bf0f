/- Arguments opened: what ClosingTells' walk is told of what came in. -/
import Derived.Test.YtllblmoojohffaaClosInt
import Derived.OpenShut
import Derived.WideShapes
import Derived.ChangeArms
import Derived.Deep.Fields
import Derived.Deep.Slices
import Derived.Lib.SmallJoins
namespace Go.Proofs.Ytllblmoojohffaa
open Go.RowKit Go.ChangeShapes Go.WideShapes Go.Deep

/-- a number of 64 bits, signed -/
def InI64 (x : Int) : Prop := -9223372036854775808 ≤ x ∧ x ≤ 9223372036854775807
theorem i64_of_wf {n : Int} (h : (Lit.int .i64 n).wf = true) : InI64 n := by
  simp [Lit.wf, IntKind.min, IntKind.max, IntKind.signed, IntKind.bits] at h
  exact h
theorem u8_of_wf {n : Int} (h : (Lit.int .u8 n).wf = true) : 0 ≤ n ∧ n < 256 := by
  simp [Lit.wf, IntKind.min, IntKind.max, IntKind.signed, IntKind.bits] at h
  omega
section
variable {H : Type} {enc : TypeId × Value → H} {P : Program} {w : World} {base : Nat} {spare : Nat → Bool} {held : Bool}
/-- A struct of one-cell fields that came in by value: its cells, and what each reads as. -/
theorem flat_struct {r : Reach} {b0 : Nat} {t : TypeId} {fs : Array Field} {v : Value} {d : DataW H} {p : List MemPlace} (hs : P.underlying t = some (.struct fs)) (hone : oneCellFields P fs = true) (hC : P.cellsOf t = fs.size)
    (hv : Value.okWide P w r b0 t v) (h : DataW.Trod enc P w base spare held t v d p) :
    ∃ cs : Array Value, v = .agg cs ∧ cs.size = fs.size ∧ ∀ (j : Nat) (f : Field), fs[j]? = some f → ∃ (c : Value) (n : Nat) (y : DataW H × List MemPlace), cs[j]? = some c ∧ DataW.trod enc P w base spare held n f.type [c] = some y := by
  obtain ⟨cs, rfl, hsz⟩ := okWide_struct hs hv
  obtain ⟨fuel, hf⟩ := h
  obtain ⟨xs, n, _, _, _, hlen, hg⟩ := DataW.trod_struct hs hf
  refine ⟨cs, rfl, hsz.trans hC, fun j f hj => ?_⟩
  obtain ⟨ho, hk⟩ := hone_of hone j f hj
  have hjl : j < fs.size := (Array.getElem?_eq_some_iff.1 hj).1
  have hjc : j < cs.size := by omega
  have h1 := hg j f hj
  rw [ho, hk] at h1
  have e : ((Value.agg cs).cells.toList.drop j).take 1 = [cs[j]] := by
    show (cs.toList.drop j).take 1 = _
    rw [List.drop_eq_getElem_cons (by simpa using hjc)]
    simp
  rw [e, List.getElem?_eq_getElem (by omega)] at h1
  exact ⟨cs[j], n, _, by simp [hjc], h1⟩
theorem cell_int {k : IntKind} {t : TypeId} {n : Nat} {c : Value} {y : DataW H × List MemPlace} (ht : P.underlying t = some (.int k)) (h : DataW.trod enc P w base spare held n t [c] = some y) : ∃ x, c = .int k x ∧ (Lit.int k x).wf = true := by
  obtain ⟨x, e, _, hw⟩ := DataW.trod_int ht h
  exact ⟨x, by simpa using e, hw⟩
end
/-- an address whose cell reads has no spot -/
theorem spot_none {w : World} {a : Addr} {v : Value} (h : w.cell? a = some v) : a.spot = none := by
  unfold World.cell? at h
  split at h
  · split at h
    · cases h
    · rename_i hs
      simpa using hs
  · cases h
section
variable {H : Type} {enc : TypeId × Value → H} {w : World} {base : Nat} {spare : Nat → Bool} {held : Bool}
set_option maxRecDepth 100000 in
/-- A slice of numbers that came in. -/
theorem sl64_of_trod {n : Nat} {c : Value} {y : DataW H × List MemPlace} (h : DataW.trod enc Try.prog w base spare held n 22 [c] = some y) : ∃ xs : List Int, Sl .i64 w c xs ∧ ∀ x ∈ xs, InI64 x := by
  rcases open_slice Try.underlying22 h with ⟨h0, _⟩ | ⟨a, len, cap, m, n', D, Pl, hcs, _, hl, hm, hmm, _, hi⟩
  · refine ⟨[], ?_, by simp⟩
    obtain rfl : c = .slice none 0 0 := by simpa using h0
    exact ⟨none, 0, rfl, Nat.le_refl _, ⟨by simp [maxLen], fun _ => rfl⟩, fun h => absurd rfl h⟩
  · obtain rfl : c = .slice (some a) len cap := by simpa using hcs
    have hlm : len ≤ m := by
      rw [hmm]
      split
      · exact hl
      · exact Nat.le_refl _
    have hC : Try.prog.cellsOf 2 = 1 := by kernel_rfl
    have key : ∀ i, i < len → ∃ x : Int, w.cell? (a.add i) = some (.int .i64 x) ∧ InI64 x := by
      intro i hlt
      obtain ⟨cs', hc, ht⟩ := hi i (by omega)
      rw [hC] at hc
      obtain ⟨_, hcl, hat⟩ := World.cells?_some hc
      have hl1 : cs'.length = 1 := by omega
      match cs', hl1 with
      | [c0], _ =>
        obtain ⟨x, rfl, hw⟩ := cell_int Try.underlying2 ht
        refine ⟨x, ?_, i64_of_wf hw⟩
        have := hat 0 (by omega)
        rw [Go.Deep.add_add] at this
        simpa using this
    refine ⟨(List.range len).map fun i => (match w.cell? (a.add i) with | some (.int _ x) => x | _ => 0), ?_, ?_⟩
    · refine ⟨some a, cap, by simp, by simpa using hl, ⟨hm, fun e => by cases e⟩, fun hne => ?_⟩
      have h0 : 0 < len := by
        rcases Nat.eq_zero_or_pos len with h | h
        · subst h; simp at hne
        · exact h
      obtain ⟨x, e1, _⟩ := key 0 h0
      have hs : a.spot = none := by
        have e : a.add 0 = a := by simp [Addr.add]
        rw [e] at e1
        exact spot_none e1
      obtain ⟨b, o, sp⟩ := a
      simp only at hs
      subst hs
      refine ⟨b, o, rfl, fun i hi => ?_⟩
      simp only [List.length_map, List.length_range] at hi
      obtain ⟨x, e1, _⟩ := key i hi
      have q1 : (⟨b, o, none⟩ : Addr).add i = ⟨b, o + i, none⟩ := Addr.add_lit _ _ _
      rw [q1] at e1
      simp [List.getD, hi, q1, e1]
    · intro y hy
      simp only [List.mem_map, List.mem_range] at hy
      obtain ⟨i, hi, rfl⟩ := hy
      obtain ⟨x, e1, hw⟩ := key i hi
      simpa [e1] using hw
set_option maxRecDepth 100000 in
/-- A plain slice argument. -/
theorem open_sl64 {r : Reach} {b0 : Nat} {v : Value} {d : DataW H} {p : List MemPlace} (hv : Value.okWide Try.prog w r b0 22 v) (h : DataW.Trod enc Try.prog w base (fun _ => true) held 22 v d p) :
    ∃ xs : List Int, Sl .i64 w v xs ∧ ∀ x ∈ xs, InI64 x := by
  obtain ⟨ao, len, cap, rfl⟩ := okWide_slice Try.underlying22 hv
  obtain ⟨fuel, hf⟩ := h
  rcases open_ints Try.underlying22 Try.underlying2 (by kernel_rfl) hf with ⟨hcs, _⟩ | ⟨x, l, c, zs, hcs, _, hl, hm, hz, _, hcell, hwz⟩
  · simp [Value.cells] at hcs
    obtain ⟨rfl, rfl, rfl⟩ := hcs
    exact ⟨[], ⟨none, 0, rfl, Nat.le_refl _, ⟨by simp [maxLen], fun _ => rfl⟩, fun h => absurd rfl h⟩, fun x hx => by simp at hx⟩
  · simp [Value.cells] at hcs
    obtain ⟨rfl, rfl, rfl⟩ := hcs
    obtain ⟨h1, h2⟩ := sl_of_row (k := .i64) (w := w) (a := some x) (len := len) (cap := cap) (zs := zs) (.inr ⟨x, rfl, hl, hm, by simpa using hz, hcell, hwz⟩)
    exact ⟨zs.take len, h1, fun y hy => i64_of_wf (h2 y hy)⟩
set_option maxRecDepth 100000 in
/-- A position that came in. -/
theorem open_pos {r : Reach} {b0 : Nat} {v : Value} {d : DataW H} {p : List MemPlace} (hv : Value.okWide Try.prog w r b0 46 v) (h : DataW.Trod enc Try.prog w base spare held 46 v d p) :
    ∃ (u : Value) (bs : List Int) (c du : Int), v = .agg #[u, .int .i64 c, .int .i64 du] ∧ Sl .i64 w u bs ∧ (∀ x ∈ bs, InI64 x) ∧ InI64 c ∧ InI64 du := by
  obtain ⟨cs, rfl, hsz, hf⟩ := flat_struct Try.underlying46 (by kernel_rfl) (by kernel_rfl) hv h
  obtain ⟨c0, _, _, g0, h0⟩ := hf 0 _ rfl
  obtain ⟨c1, _, _, g1, h1⟩ := hf 1 _ rfl
  obtain ⟨c2, _, _, g2, h2⟩ := hf 2 _ rfl
  obtain ⟨bs, ht, hr⟩ := sl64_of_trod h0
  obtain ⟨x1, rfl, r1⟩ := cell_int Try.underlying2 h1
  obtain ⟨x2, rfl, r2⟩ := cell_int Try.underlying2 h2
  refine ⟨c0, bs, x1, x2, ?_, ht, hr, i64_of_wf r1, i64_of_wf r2⟩
  congr 1
  apply Array.ext
  · simpa using hsz
  · intro j h1 h2
    have hj : j < 3 := by simpa using h2
    have : j = 0 ∨ j = 1 ∨ j = 2 := by omega
    rcases this with rfl | rfl | rfl
    · simpa using (Array.getElem?_eq_some_iff.1 g0).2
    · simpa using (Array.getElem?_eq_some_iff.1 g1).2
    · simpa using (Array.getElem?_eq_some_iff.1 g2).2
set_option maxRecDepth 100000 in
/-- A slice of tranches that came in. -/
theorem trS_of_trod {n : Nat} {c : Value} {y : DataW H × List MemPlace} (h : DataW.trod enc Try.prog w base spare held n 32 [c] = some y) : ∃ ts : List (Int × Bool), TrS w c ts ∧ ∀ x ∈ ts, InI64 x.1 := by
  rcases open_slice Try.underlying32 h with ⟨h0, _⟩ | ⟨a, len, cap, m, n', D, Pl, hcs, _, hl, hm, hmm, _, hi⟩
  · refine ⟨[], ?_, by simp⟩
    obtain rfl : c = .slice none 0 0 := by simpa using h0
    exact ⟨none, 0, rfl, Nat.le_refl _, ⟨by simp [maxLen], fun _ => rfl⟩, fun h => absurd rfl h⟩
  · obtain rfl : c = .slice (some a) len cap := by simpa using hcs
    have hlm : len ≤ m := by
      rw [hmm]
      split
      · exact hl
      · exact Nat.le_refl _
    have hC : Try.prog.cellsOf 77 = 2 := by kernel_rfl
    have key : ∀ i, i < len → ∃ (x : Int) (g : Bool), w.cell? (a.add (i * 2)) = some (.int .i64 x) ∧ w.cell? (a.add (i * 2 + 1)) = some (.bool g) ∧ InI64 x := by
      intro i hlt
      obtain ⟨cs', hc, ht⟩ := hi i (by omega)
      rw [hC] at hc
      obtain ⟨xs, m2, _, _, hlen, hxl, hf⟩ := DataW.trod_struct Try.underlying77 ht
      obtain ⟨_, hcl, hat⟩ := World.cells?_some hc
      have hl2 : cs'.length = 2 := by rw [hlen, hC]
      match cs', hl2 with
      | [c0, c1], _ =>
        have f0 : DataW.trod enc Try.prog w base spare held m2 2 (([c0, c1].drop 0).take (Try.prog.cellsOf 2)) = xs[0]? := hf 0 _ rfl
        have f1 : DataW.trod enc Try.prog w base spare held m2 4 (([c0, c1].drop 1).take (Try.prog.cellsOf 4)) = xs[1]? := hf 1 _ rfl
        have hC2 : Try.prog.cellsOf 2 = 1 := by kernel_rfl
        have hC4 : Try.prog.cellsOf 4 = 1 := by kernel_rfl
        rw [hC2] at f0
        rw [hC4] at f1
        have hx2 : xs.length = 2 := hxl
        have g0 : DataW.trod enc Try.prog w base spare held m2 2 [c0] = some (xs[0]'(by omega)) := by
          rw [← List.getElem?_eq_getElem (by omega)]; exact f0
        have g1 : DataW.trod enc Try.prog w base spare held m2 4 [c1] = some (xs[1]'(by omega)) := by
          rw [← List.getElem?_eq_getElem (by omega)]; exact f1
        obtain ⟨x, rfl, hw⟩ := cell_int Try.underlying2 g0
        obtain ⟨b, hb, _⟩ := DataW.trod_bool Try.underlying4 g1
        obtain rfl : c1 = .bool b := by simpa using hb
        refine ⟨x, b, ?_, ?_, i64_of_wf hw⟩
        · have := hat 0 (by omega)
          rw [Go.Deep.add_add] at this
          simpa using this
        · have := hat 1 (by omega)
          rw [Go.Deep.add_add] at this
          simpa using this
    refine ⟨(List.range len).map fun i => ((match w.cell? (a.add (i * 2)) with | some (.int _ x) => x | _ => 0), (match w.cell? (a.add (i * 2 + 1)) with | some (.bool g) => g | _ => false)), ?_, ?_⟩
    · refine ⟨some a, cap, by simp, by simpa using hl, ⟨hm, fun e => by cases e⟩, fun hne => ?_⟩
      have h0 : 0 < len := by
        rcases Nat.eq_zero_or_pos len with h | h
        · subst h; simp at hne
        · exact h
      obtain ⟨x, g, e1, _, _⟩ := key 0 h0
      have hs : a.spot = none := by
        have e : a.add (0 * 2) = a := by simp [Addr.add]
        rw [e] at e1
        exact spot_none e1
      obtain ⟨b, o, sp⟩ := a
      simp only at hs
      subst hs
      refine ⟨b, o, rfl, fun i hi => ?_⟩
      simp only [List.length_map, List.length_range] at hi
      obtain ⟨x, g, e1, e2, _⟩ := key i hi
      have q1 : (⟨b, o, none⟩ : Addr).add (i * 2) = ⟨b, o + i * 2, none⟩ := Addr.add_lit _ _ _
      have q2 : (⟨b, o, none⟩ : Addr).add (i * 2 + 1) = ⟨b, o + i * 2 + 1, none⟩ := Addr.add_lit _ _ _
      rw [q1] at e1
      rw [q2] at e2
      simp [List.getD, hi, q1, q2, e1, e2]
    · intro y hy
      simp only [List.mem_map, List.mem_range] at hy
      obtain ⟨i, hi, rfl⟩ := hy
      obtain ⟨x, g, e1, _, hw⟩ := key i hi
      simpa [e1] using hw
set_option maxRecDepth 100000 in
/-- Terms that came in. -/
theorem open_terms {r : Reach} {b0 : Nat} {v : Value} {d : DataW H} {p : List MemPlace} (hv : Value.okWide Try.prog w r b0 34 v) (h : DataW.Trod enc Try.prog w base spare held 34 v d p) :
    ∃ (lim : Int) (u : Value) (ts : List (Int × Bool)) (c du f pa s : Int), v = .agg #[.int .i64 lim, u, .int .i64 c, .int .i64 du, .int .i64 f, .int .i64 pa, .int .i64 s] ∧ TrS w u ts ∧ (∀ x ∈ ts, InI64 x.1) ∧ InI64 lim ∧ InI64 c ∧ InI64 du ∧ InI64 f ∧ InI64 pa ∧ InI64 s := by
  obtain ⟨cs, rfl, hsz, hf⟩ := flat_struct Try.underlying34 (by kernel_rfl) (by kernel_rfl) hv h
  obtain ⟨c0, _, _, g0, h0⟩ := hf 0 _ rfl
  obtain ⟨c1, _, _, g1, h1⟩ := hf 1 _ rfl
  obtain ⟨c2, _, _, g2, h2⟩ := hf 2 _ rfl
  obtain ⟨c3, _, _, g3, h3⟩ := hf 3 _ rfl
  obtain ⟨c4, _, _, g4, h4⟩ := hf 4 _ rfl
  obtain ⟨c5, _, _, g5, h5⟩ := hf 5 _ rfl
  obtain ⟨c6, _, _, g6, h6⟩ := hf 6 _ rfl
  obtain ⟨x0, rfl, r0⟩ := cell_int Try.underlying2 h0
  obtain ⟨ts, ht, hr⟩ := trS_of_trod h1
  obtain ⟨x2, rfl, r2⟩ := cell_int Try.underlying3 h2
  obtain ⟨x3, rfl, r3⟩ := cell_int Try.underlying3 h3
  obtain ⟨x4, rfl, r4⟩ := cell_int Try.underlying2 h4
  obtain ⟨x5, rfl, r5⟩ := cell_int Try.underlying2 h5
  obtain ⟨x6, rfl, r6⟩ := cell_int Try.underlying3 h6
  refine ⟨x0, c1, ts, x2, x3, x4, x5, x6, ?_, ht, hr, i64_of_wf r0, i64_of_wf r2, i64_of_wf r3, i64_of_wf r4, i64_of_wf r5, i64_of_wf r6⟩
  congr 1
  apply Array.ext
  · simpa using hsz
  · intro j h1 h2
    have hj : j < 7 := by simpa using h2
    have : j = 0 ∨ j = 1 ∨ j = 2 ∨ j = 3 ∨ j = 4 ∨ j = 5 ∨ j = 6 := by omega
    rcases this with rfl | rfl | rfl | rfl | rfl | rfl | rfl
    · simpa using (Array.getElem?_eq_some_iff.1 g0).2
    · simpa using (Array.getElem?_eq_some_iff.1 g1).2
    · simpa using (Array.getElem?_eq_some_iff.1 g2).2
    · simpa using (Array.getElem?_eq_some_iff.1 g3).2
    · simpa using (Array.getElem?_eq_some_iff.1 g4).2
    · simpa using (Array.getElem?_eq_some_iff.1 g5).2
    · simpa using (Array.getElem?_eq_some_iff.1 g6).2
set_option maxRecDepth 100000 in
/-- A span that came in. -/
theorem open_span {r : Reach} {b0 : Nat} {v : Value} {d : DataW H} {p : List MemPlace} (hv : Value.okWide Try.prog w r b0 48 v) (h : DataW.Trod enc Try.prog w base spare held 48 v d p) :
    ∃ f t : Int, v = .agg #[.int .i64 f, .int .i64 t] ∧ InI64 f ∧ InI64 t := by
  obtain ⟨cs, rfl, hsz, hf⟩ := flat_struct Try.underlying48 (by kernel_rfl) (by kernel_rfl) hv h
  obtain ⟨c0, _, _, g0, h0⟩ := hf 0 _ rfl
  obtain ⟨c1, _, _, g1, h1⟩ := hf 1 _ rfl
  obtain ⟨x0, rfl, r0⟩ := cell_int Try.underlying3 h0
  obtain ⟨x1, rfl, r1⟩ := cell_int Try.underlying3 h1
  refine ⟨x0, x1, ?_, i64_of_wf r0, i64_of_wf r1⟩
  congr 1
  apply Array.ext
  · simpa using hsz
  · intro j h1 h2
    have hj : j < 2 := by simpa using h2
    have : j = 0 ∨ j = 1 := by omega
    rcases this with rfl | rfl
    · simpa using (Array.getElem?_eq_some_iff.1 g0).2
    · simpa using (Array.getElem?_eq_some_iff.1 g1).2
set_option maxRecDepth 100000 in
/-- A slice of slices that came in. -/
theorem rwS_of_trod {n : Nat} {c : Value} {y : DataW H × List MemPlace} (h : DataW.trod enc Try.prog w base spare held n 62 [c] = some y) : ∃ rows : List (List Int), RwS w c rows ∧ ∀ l ∈ rows, ∀ x ∈ l, InI64 x := by
  rcases open_slice Try.underlying62 h with ⟨h0, _⟩ | ⟨a, len, cap, m, n', D, Pl, hcs, _, hl, hm, hmm, _, hi⟩
  · refine ⟨[], ?_, by simp⟩
    obtain rfl : c = .slice none 0 0 := by simpa using h0
    exact ⟨none, 0, rfl, Nat.le_refl _, ⟨by simp [maxLen], fun _ => rfl⟩, fun h => absurd rfl h⟩
  · obtain rfl : c = .slice (some a) len cap := by simpa using hcs
    have hlm : len ≤ m := by
      rw [hmm]
      split
      · exact hl
      · exact Nat.le_refl _
    have hC : Try.prog.cellsOf 22 = 1 := by kernel_rfl
    have key : ∀ i, ∃ l : List Int, i < len → ∃ u, w.cell? (a.add i) = some u ∧ Sl .i64 w u l ∧ ∀ x ∈ l, InI64 x := by
      intro i
      by_cases hlt : i < len
      · obtain ⟨cs', hc, ht⟩ := hi i (by omega)
        rw [hC] at hc
        obtain ⟨_, hcl, hat⟩ := World.cells?_some hc
        have hl1 : cs'.length = 1 := by omega
        match cs', hl1 with
        | [c0], _ =>
          obtain ⟨l, hs, hx⟩ := sl64_of_trod ht
          refine ⟨l, fun _ => ⟨c0, ?_, hs, hx⟩⟩
          have := hat 0 (by omega)
          rw [Go.Deep.add_add] at this
          simpa using this
      · exact ⟨[], fun h => absurd h hlt⟩
    obtain ⟨F, hF⟩ := Classical.axiomOfChoice key
    refine ⟨(List.range len).map F, ?_, ?_⟩
    · refine ⟨some a, cap, by simp, by simpa using hl, ⟨hm, fun e => by cases e⟩, fun hne => ?_⟩
      have h0 : 0 < len := by
        rcases Nat.eq_zero_or_pos len with h | h
        · subst h; simp at hne
        · exact h
      obtain ⟨u, e1, _⟩ := hF 0 h0
      have hs : a.spot = none := by
        have e : a.add 0 = a := by simp [Addr.add]
        rw [e] at e1
        exact spot_none e1
      obtain ⟨b, o, sp⟩ := a
      simp only at hs
      subst hs
      refine ⟨b, o, rfl, fun i hi => ?_⟩
      simp only [List.length_map, List.length_range] at hi
      obtain ⟨u, e1, e2, _⟩ := hF i hi
      have q1 : (⟨b, o, none⟩ : Addr).add i = ⟨b, o + i, none⟩ := Addr.add_lit _ _ _
      rw [q1] at e1
      exact ⟨u, e1, by simpa [List.getD, hi] using e2⟩
    · intro l hy
      simp only [List.mem_map, List.mem_range] at hy
      obtain ⟨i, hi, rfl⟩ := hy
      obtain ⟨u, _, _, hw⟩ := hF i hi
      exact hw
set_option maxRecDepth 100000 in
theorem open_rows64 {r : Reach} {b0 : Nat} {v : Value} {d : DataW H} {p : List MemPlace} (hv : Value.okWide Try.prog w r b0 62 v) (h : DataW.Trod enc Try.prog w base spare held 62 v d p) :
    ∃ rows : List (List Int), RwS w v rows ∧ ∀ l ∈ rows, ∀ x ∈ l, InI64 x := by
  obtain ⟨ao, len, cap, rfl⟩ := okWide_slice Try.underlying62 hv
  obtain ⟨fuel, hf⟩ := h
  exact rwS_of_trod (by simpa [Value.cells] using hf)
end
end Go.Proofs.Ytllblmoojohffaa
