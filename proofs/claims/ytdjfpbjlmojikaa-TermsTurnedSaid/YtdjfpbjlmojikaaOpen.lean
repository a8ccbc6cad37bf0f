/- Arguments opened: what the law's walk is told of what came in. -/
import Derived.Test.YtdjfpbjlmojikaaTerms
import Derived.Test.YtdjfpbjlmojikaaEvPack
import Derived.OpenShut
import Derived.WideShapes
import Derived.ChangeArms
import Derived.Deep.Fields
import Derived.Deep.Slices
import Derived.Lib.SmallJoins
namespace Go.Proofs.Ytdjfpbjlmojikaa
open Go.RowKit Go.ChangeShapes Go.WideShapes Go.Deep

/-- a number of 64 bits, signed -/
def InI64 (x : Int) : Prop := -9223372036854775808 ≤ x ∧ x ≤ 9223372036854775807
theorem i64_of_wf {n : Int} (h : (Lit.int .i64 n).wf = true) : InI64 n := by
  simp [Lit.wf, IntKind.min, IntKind.max, IntKind.signed, IntKind.bits] at h
  exact h
theorem u8_of_wf {n : Int} (h : (Lit.int .u8 n).wf = true) : 0 ≤ n ∧ n < 256 := by
  simp [Lit.wf, IntKind.min, IntKind.max, IntKind.signed, IntKind.bits] at h
  omega
section
variable {H : Type} {enc : TypeId × Value → H} {P : Program} {w : World} {base : Nat} {spare : Nat → Bool} {held : Bool}
/-- A struct of one-cell fields that came in by value: its cells, and what each reads as. -/
theorem flat_struct {r : Reach} {b0 : Nat} {t : TypeId} {fs : Array Field} {v : Value} {d : DataW H} {p : List MemPlace} (hs : P.underlying t = some (.struct fs)) (hone : oneCellFields P fs = true) (hC : P.cellsOf t = fs.size)
    (hv : Value.okWide P w r b0 t v) (h : DataW.Trod enc P w base spare held t v d p) :
    ∃ cs : Array Value, v = .agg cs ∧ cs.size = fs.size ∧ ∀ (j : Nat) (f : Field), fs[j]? = some f → ∃ (c : Value) (n : Nat) (y : DataW H × List MemPlace), cs[j]? = some c ∧ DataW.trod enc P w base spare held n f.type [c] = some y := by
  obtain ⟨cs, rfl, hsz⟩ := okWide_struct hs hv
  obtain ⟨fuel, hf⟩ := h
  obtain ⟨xs, n, _, _, _, hlen, hg⟩ := DataW.trod_struct hs hf
  refine ⟨cs, rfl, hsz.trans hC, fun j f hj => ?_⟩
  obtain ⟨ho, hk⟩ := hone_of hone j f hj
  have hjl : j < fs.size := (Array.getElem?_eq_some_iff.1 hj).1
  have hjc : j < cs.size := by omega
  have h1 := hg j f hj
  rw [ho, hk] at h1
  have e : ((Value.agg cs).cells.toList.drop j).take 1 = [cs[j]] := by
    show (cs.toList.drop j).take 1 = _
    rw [List.drop_eq_getElem_cons (by simpa using hjc)]
    simp
  rw [e, List.getElem?_eq_getElem (by omega)] at h1
  exact ⟨cs[j], n, _, by simp [hjc], h1⟩
theorem cell_int {k : IntKind} {t : TypeId} {n : Nat} {c : Value} {y : DataW H × List MemPlace} (ht : P.underlying t = some (.int k)) (h : DataW.trod enc P w base spare held n t [c] = some y) : ∃ x, c = .int k x ∧ (Lit.int k x).wf = true := by
  obtain ⟨x, e, _, hw⟩ := DataW.trod_int ht h
  exact ⟨x, by simpa using e, hw⟩
/-- An array of bytes that came in by value. -/
theorem flat_bytes {r : Reach} {b0 : Nat} {t e : TypeId} {m : Nat} {v : Value} {d : DataW H} {p : List MemPlace} (hs : P.underlying t = some (.array m e)) (he : P.underlying e = some (.int .u8)) (hc : P.cellsOf e = 1) (hC : P.cellsOf t = m)
    (hv : Value.okWide P w r b0 t v) (h : DataW.Trod enc P w base spare held t v d p) : ∃ l : List Int, v = arrV l ∧ l.length = m ∧ Byts l := by
  have ⟨cs, hcs, hsz⟩ : ∃ cs, v = .agg cs ∧ cs.size = P.cellsOf t := by
    simp only [Value.okWide, hs] at hv
    obtain ⟨cs, h1, h2, _⟩ := hv
    exact ⟨cs, h1, h2⟩
  subst hcs
  obtain ⟨fuel, hf⟩ := h
  obtain ⟨xs, n, _, _, _, hlen, hg⟩ := DataW.trod_array hs hf
  rw [hC] at hsz
  have key : ∀ j, (hj : j < m) → ∃ x, cs[j]'(by omega) = .int .u8 x ∧ 0 ≤ x ∧ x < 256 := by
    intro j hj
    have h1 := hg j hj
    rw [hc, Nat.mul_one] at h1
    have e' : ((Value.agg cs).cells.toList.drop j).take 1 = [cs[j]'(by omega)] := by
      show (cs.toList.drop j).take 1 = _
      rw [List.drop_eq_getElem_cons (by simpa using (by omega : j < cs.size))]
      simp
    rw [e', List.getElem?_eq_getElem (by omega)] at h1
    obtain ⟨x, hx, hw⟩ := cell_int he h1
    exact ⟨x, hx, u8_of_wf hw⟩
  refine ⟨cs.toList.map (fun c => match c with | .int _ x => x | _ => 0), ?_, by simp [hsz], ?_⟩
  · unfold arrV
    congr 1
    apply Array.ext
    · simp
    · intro j h1 h2
      obtain ⟨x, hx, _⟩ := key j (by omega)
      simp [hx]
  · intro y hy
    simp only [List.mem_map] at hy
    obtain ⟨c, hcm, rfl⟩ := hy
    obtain ⟨j, hj, rfl⟩ := List.getElem_of_mem hcm
    obtain ⟨x, hx, h0, h1⟩ := key j (by simpa [hsz] using hj)
    simp [hx, h0, h1]
end
section
variable {H : Type} {enc : TypeId × Value → H} {w : World} {base : Nat} {spare : Nat → Bool} {held : Bool}
/-- An event that came in. -/
theorem open_event {r : Reach} {b0 : Nat} {v : Value} {d : DataW H} {p : List MemPlace} (hv : Value.okWide Try.prog w r b0 35 v) (h : DataW.Trod enc Try.prog w base spare held 35 v d p) :
    ∃ k d t a r : Int, v = .agg #[.int .i64 k, .int .i64 d, .int .i64 t, .int .i64 a, .int .i64 r] ∧ InI64 k ∧ InI64 d ∧ InI64 t ∧ InI64 a ∧ InI64 r := by
  obtain ⟨cs, rfl, hsz, hf⟩ := flat_struct Try.underlying35 (by kernel_rfl) (by kernel_rfl) hv h
  obtain ⟨c0, _, _, g0, h0⟩ := hf 0 _ rfl
  obtain ⟨c1, _, _, g1, h1⟩ := hf 1 _ rfl
  obtain ⟨c2, _, _, g2, h2⟩ := hf 2 _ rfl
  obtain ⟨c3, _, _, g3, h3⟩ := hf 3 _ rfl
  obtain ⟨c4, _, _, g4, h4⟩ := hf 4 _ rfl
  obtain ⟨x0, rfl, r0⟩ := cell_int Try.underlying3 h0
  obtain ⟨x1, rfl, r1⟩ := cell_int Try.underlying3 h1
  obtain ⟨x2, rfl, r2⟩ := cell_int Try.underlying3 h2
  obtain ⟨x3, rfl, r3⟩ := cell_int Try.underlying2 h3
  obtain ⟨x4, rfl, r4⟩ := cell_int Try.underlying3 h4
  refine ⟨x0, x1, x2, x3, x4, ?_, i64_of_wf r0, i64_of_wf r1, i64_of_wf r2, i64_of_wf r3, i64_of_wf r4⟩
  congr 1
  apply Array.ext
  · simpa using hsz
  · intro j h1 h2
    have hj : j < 5 := by simpa using h2
    have : j = 0 ∨ j = 1 ∨ j = 2 ∨ j = 3 ∨ j = 4 := by omega
    rcases this with rfl | rfl | rfl | rfl | rfl
    · simpa using (Array.getElem?_eq_some_iff.1 g0).2
    · simpa using (Array.getElem?_eq_some_iff.1 g1).2
    · simpa using (Array.getElem?_eq_some_iff.1 g2).2
    · simpa using (Array.getElem?_eq_some_iff.1 g3).2
    · simpa using (Array.getElem?_eq_some_iff.1 g4).2
theorem open_arr40 {r : Reach} {b0 : Nat} {v : Value} {d : DataW H} {p : List MemPlace} (hv : Value.okWide Try.prog w r b0 42 v) (h : DataW.Trod enc Try.prog w base spare held 42 v d p) :
    ∃ l : List Int, v = arrV l ∧ l.length = 40 ∧ Byts l := flat_bytes Try.underlying42 Try.underlying5 (by kernel_rfl) (by kernel_rfl) hv h
end
end Go.Proofs.Ytdjfpbjlmojikaa
