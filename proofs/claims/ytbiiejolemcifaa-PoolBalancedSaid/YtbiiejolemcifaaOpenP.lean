/- Arguments opened: what the law's walk is told of what came in. -/
import Derived.Test.YtbiiejolemcifaaLib
import Derived.OpenShut
import Derived.WideShapes
import Derived.ChangeArms
import Derived.Deep.Fields
import Derived.Deep.Slices
import Derived.Lib.SmallJoins
namespace Go.Proofs.Ytbiiejolemcifaa
open Go.RowKit Go.ChangeShapes Go.WideShapes Go.Deep

/-- a number of 64 bits, signed -/
def InI64 (x : Int) : Prop := -9223372036854775808 ≤ x ∧ x ≤ 9223372036854775807
theorem i64_of_wf {n : Int} (h : (Lit.int .i64 n).wf = true) : InI64 n := by
  simp [Lit.wf, IntKind.min, IntKind.max, IntKind.signed, IntKind.bits] at h
  exact h
theorem u8_of_wf {n : Int} (h : (Lit.int .u8 n).wf = true) : 0 ≤ n ∧ n < 256 := by
  simp [Lit.wf, IntKind.min, IntKind.max, IntKind.signed, IntKind.bits] at h
  omega
section
variable {H : Type} {enc : TypeId × Value → H} {P : Program} {w : World} {base : Nat} {spare : Nat → Bool} {held : Bool}
/-- A struct of one-cell fields that came in by value: its cells, and what each reads as. -/
theorem flat_struct {r : Reach} {b0 : Nat} {t : TypeId} {fs : Array Field} {v : Value} {d : DataW H} {p : List MemPlace} (hs : P.underlying t = some (.struct fs)) (hone : oneCellFields P fs = true) (hC : P.cellsOf t = fs.size)
    (hv : Value.okWide P w r b0 t v) (h : DataW.Trod enc P w base spare held t v d p) :
    ∃ cs : Array Value, v = .agg cs ∧ cs.size = fs.size ∧ ∀ (j : Nat) (f : Field), fs[j]? = some f → ∃ (c : Value) (n : Nat) (y : DataW H × List MemPlace), cs[j]? = some c ∧ DataW.trod enc P w base spare held n f.type [c] = some y := by
  obtain ⟨cs, rfl, hsz⟩ := okWide_struct hs hv
  obtain ⟨fuel, hf⟩ := h
  obtain ⟨xs, n, _, _, _, hlen, hg⟩ := DataW.trod_struct hs hf
  refine ⟨cs, rfl, hsz.trans hC, fun j f hj => ?_⟩
  obtain ⟨ho, hk⟩ := hone_of hone j f hj
  have hjl : j < fs.size := (Array.getElem?_eq_some_iff.1 hj).1
  have hjc : j < cs.size := by omega
  have h1 := hg j f hj
  rw [ho, hk] at h1
  have e : ((Value.agg cs).cells.toList.drop j).take 1 = [cs[j]] := by
    show (cs.toList.drop j).take 1 = _
    rw [List.drop_eq_getElem_cons (by simpa using hjc)]
    simp
  rw [e, List.getElem?_eq_getElem (by omega)] at h1
  exact ⟨cs[j], n, _, by simp [hjc], h1⟩
theorem cell_int {k : IntKind} {t : TypeId} {n : Nat} {c : Value} {y : DataW H × List MemPlace} (ht : P.underlying t = some (.int k)) (h : DataW.trod enc P w base spare held n t [c] = some y) : ∃ x, c = .int k x ∧ (Lit.int k x).wf = true := by
  obtain ⟨x, e, _, hw⟩ := DataW.trod_int ht h
  exact ⟨x, by simpa using e, hw⟩
end
/-- an address whose cell reads has no spot -/
theorem spot_none {w : World} {a : Addr} {v : Value} (h : w.cell? a = some v) : a.spot = none := by
  unfold World.cell? at h
  split at h
  · split at h
    · cases h
    · rename_i hs
      simpa using hs
  · cases h
section
variable {H : Type} {enc : TypeId × Value → H} {w : World} {base : Nat} {spare : Nat → Bool} {held : Bool}
set_option maxRecDepth 100000 in
/-- A slice of numbers that came in. -/
theorem sl64_of_trod {n : Nat} {c : Value} {y : DataW H × List MemPlace} (h : DataW.trod enc Try.prog w base spare held n 23 [c] = some y) : ∃ xs : List Int, Sl .i64 w c xs ∧ ∀ x ∈ xs, InI64 x := by
  rcases open_slice Try.underlying23 h with ⟨h0, _⟩ | ⟨a, len, cap, m, n', D, Pl, hcs, _, hl, hm, hmm, _, hi⟩
  · refine ⟨[], ?_, by simp⟩
    obtain rfl : c = .slice none 0 0 := by simpa using h0
    exact ⟨none, 0, rfl, Nat.le_refl _, ⟨by simp [maxLen], fun _ => rfl⟩, fun h => absurd rfl h⟩
  · obtain rfl : c = .slice (some a) len cap := by simpa using hcs
    have hlm : len ≤ m := by
      rw [hmm]
      split
      · exact hl
      · exact Nat.le_refl _
    have hC : Try.prog.cellsOf 2 = 1 := by kernel_rfl
    have key : ∀ i, i < len → ∃ x : Int, w.cell? (a.add i) = some (.int .i64 x) ∧ InI64 x := by
      intro i hlt
      obtain ⟨cs', hc, ht⟩ := hi i (by omega)
      rw [hC] at hc
      obtain ⟨_, hcl, hat⟩ := World.cells?_some hc
      have hl1 : cs'.length = 1 := by omega
      match cs', hl1 with
      | [c0], _ =>
        obtain ⟨x, rfl, hw⟩ := cell_int Try.underlying2 ht
        refine ⟨x, ?_, i64_of_wf hw⟩
        have := hat 0 (by omega)
        rw [Go.Deep.add_add] at this
        simpa using this
    refine ⟨(List.range len).map fun i => (match w.cell? (a.add i) with | some (.int _ x) => x | _ => 0), ?_, ?_⟩
    · refine ⟨some a, cap, by simp, by simpa using hl, ⟨hm, fun e => by cases e⟩, fun hne => ?_⟩
      have h0 : 0 < len := by
        rcases Nat.eq_zero_or_pos len with h | h
        · subst h; simp at hne
        · exact h
      obtain ⟨x, e1, _⟩ := key 0 h0
      have hs : a.spot = none := by
        have e : a.add 0 = a := by simp [Addr.add]
        rw [e] at e1
        exact spot_none e1
      obtain ⟨b, o, sp⟩ := a
      simp only at hs
      subst hs
      refine ⟨b, o, rfl, fun i hi => ?_⟩
      simp only [List.length_map, List.length_range] at hi
      obtain ⟨x, e1, _⟩ := key i hi
      have q1 : (⟨b, o, none⟩ : Addr).add i = ⟨b, o + i, none⟩ := Addr.add_lit _ _ _
      rw [q1] at e1
      simp [List.getD, hi, q1, e1]
    · intro y hy
      simp only [List.mem_map, List.mem_range] at hy
      obtain ⟨i, hi, rfl⟩ := hy
      obtain ⟨x, e1, hw⟩ := key i hi
      simpa [e1] using hw
set_option maxRecDepth 100000 in
/-- A plain slice argument. -/
theorem open_sl64 {r : Reach} {b0 : Nat} {v : Value} {d : DataW H} {p : List MemPlace} (hv : Value.okWide Try.prog w r b0 23 v) (h : DataW.Trod enc Try.prog w base (fun _ => true) held 23 v d p) :
    ∃ xs : List Int, Sl .i64 w v xs ∧ ∀ x ∈ xs, InI64 x := by
  obtain ⟨ao, len, cap, rfl⟩ := okWide_slice Try.underlying23 hv
  obtain ⟨fuel, hf⟩ := h
  rcases open_ints Try.underlying23 Try.underlying2 (by kernel_rfl) hf with ⟨hcs, _⟩ | ⟨x, l, c, zs, hcs, _, hl, hm, hz, _, hcell, hwz⟩
  · simp [Value.cells] at hcs
    obtain ⟨rfl, rfl, rfl⟩ := hcs
    exact ⟨[], ⟨none, 0, rfl, Nat.le_refl _, ⟨by simp [maxLen], fun _ => rfl⟩, fun h => absurd rfl h⟩, fun x hx => by simp at hx⟩
  · simp [Value.cells] at hcs
    obtain ⟨rfl, rfl, rfl⟩ := hcs
    obtain ⟨h1, h2⟩ := sl_of_row (k := .i64) (w := w) (a := some x) (len := len) (cap := cap) (zs := zs) (.inr ⟨x, rfl, hl, hm, by simpa using hz, hcell, hwz⟩)
    exact ⟨zs.take len, h1, fun y hy => i64_of_wf (h2 y hy)⟩
set_option maxRecDepth 100000 in
/-- A position that came in. -/
theorem open_pos {r : Reach} {b0 : Nat} {v : Value} {d : DataW H} {p : List MemPlace} (hv : Value.okWide Try.prog w r b0 25 v) (h : DataW.Trod enc Try.prog w base spare held 25 v d p) :
    ∃ (u : Value) (bs : List Int) (c du : Int), v = .agg #[u, .int .i64 c, .int .i64 du] ∧ Sl .i64 w u bs ∧ (∀ x ∈ bs, InI64 x) ∧ InI64 c ∧ InI64 du := by
  obtain ⟨cs, rfl, hsz, hf⟩ := flat_struct Try.underlying25 (by kernel_rfl) (by kernel_rfl) hv h
  obtain ⟨c0, _, _, g0, h0⟩ := hf 0 _ rfl
  obtain ⟨c1, _, _, g1, h1⟩ := hf 1 _ rfl
  obtain ⟨c2, _, _, g2, h2⟩ := hf 2 _ rfl
  obtain ⟨bs, ht, hr⟩ := sl64_of_trod h0
  obtain ⟨x1, rfl, r1⟩ := cell_int Try.underlying2 h1
  obtain ⟨x2, rfl, r2⟩ := cell_int Try.underlying2 h2
  refine ⟨c0, bs, x1, x2, ?_, ht, hr, i64_of_wf r1, i64_of_wf r2⟩
  congr 1
  apply Array.ext
  · simpa using hsz
  · intro j h1 h2
    have hj : j < 3 := by simpa using h2
    have : j = 0 ∨ j = 1 ∨ j = 2 := by omega
    rcases this with rfl | rfl | rfl
    · simpa using (Array.getElem?_eq_some_iff.1 g0).2
    · simpa using (Array.getElem?_eq_some_iff.1 g1).2
    · simpa using (Array.getElem?_eq_some_iff.1 g2).2
end
end Go.Proofs.Ytbiiejolemcifaa
