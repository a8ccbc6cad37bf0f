/- A great region that draws its order and only reads: a cheaper test that the order of the text serves. -/
import Derived.Test.YtllblmoojohffaaLib
import Derived.Deep.QuietTactic
import Derived.BigQuiet
namespace Go.Proofs.Ytllblmoojohffaa
open Go.RowKit

/-- Each operation waits for earlier ones alone; a later one waits for it, or is apart from it. -/
def cheapL (md : Region.Mode) (ops : Array Oper) : List Oper → Nat → Bool
  | [], _ => true
  | o :: l, k => o.after.all (fun e => !Region.binds md e || decide (e.on < k)) && l.all (fun oj => oj.after.any (fun e => Region.binds md e && e.on == k) || o.apart ops oj) && cheapL md ops l (k + 1)
section
variable {P : Program} {md : Region.Mode} {ops : Array Oper}
theorem lexFrom_cheap : ∀ (l : List Oper) (k : Nat) (listed : Array Bool), (∀ j, l[j]? = ops[k + j]?) → ops.size = k + l.length → listed.size = ops.size → (∀ j, j < ops.size → listed.getD j true = decide (j < k)) → cheapL md ops l k = true → Region.lexFrom md ops l.length k listed = true
  | [], k, listed, hl, hn, hs, hd, _ => by
    show (Region.ready md ops listed).isEmpty = true
    rw [List.isEmpty_iff]
    refine List.eq_nil_iff_forall_not_mem.2 fun i hi => ?_
    obtain ⟨h1, o, ho, _⟩ := mem_ready.1 hi
    have hi2 : i < ops.size := (Array.getElem?_eq_some_iff.1 ho).1
    rw [hd i hi2] at h1
    simp at h1 hn
    omega
  | o :: l, k, listed, hl, hn, hs, hd, hc => by
    simp only [List.length_cons] at hn
    simp only [cheapL, Bool.and_eq_true] at hc
    obtain ⟨⟨hc1, hc2⟩, hc3⟩ := hc
    have h0 : ops[k]? = some o := by simpa using (hl 0).symm
    simp only [List.length_cons, Region.lexFrom, Bool.and_eq_true]
    refine ⟨⟨?_, ?_⟩, ?_⟩
    · simp only [List.contains_iff_mem]
      refine mem_ready.2 ⟨by rw [hd k (by omega)]; simp, o, h0, fun e he hb => ?_⟩
      have h3 := Array.all_eq_true'.1 hc1 e he
      rw [hb] at h3
      simp at h3
      have h4 := hd e.on (by omega)
      have h5 : e.on < listed.size := by omega
      simp [h5] at h4 ⊢
      rw [h4]
      simpa using h3
    · unfold Region.free
      rw [h0]
      simp only [List.all_eq_true, List.mem_range]
      intro j hj
      by_cases h1 : j = k
      · subst h1; simp
      · by_cases h2 : j < k
        · rw [hd j hj]; simp [h2]
        · obtain ⟨m, rfl⟩ : ∃ m, j = k + (m + 1) := ⟨j - k - 1, by omega⟩
          have h3 := (hl (m + 1)).symm
          simp only [List.getElem?_cons_succ] at h3
          have hm : m < l.length := by omega
          rw [List.getElem?_eq_getElem hm] at h3
          rw [h3]
          have h4 := List.all_eq_true.1 hc2 l[m] (List.getElem_mem hm)
          simp only
          rw [h4]
          simp
    · refine lexFrom_cheap l (k + 1) _ (fun j => by have := hl (j + 1); simpa [Nat.add_assoc, Nat.add_comm 1 j] using this) (by omega) (by simpa using hs) (fun j hj => ?_) hc3
      by_cases h1 : k = j
      · subst h1
        have : k < listed.size := by omega
        simp [this]
      · rw [getD_set_ne true h1, hd j hj]
        by_cases h2 : j < k
        · simp [h2, show j < k + 1 by omega]
        · simp [h2, show ¬ j < k + 1 by omega]
theorem lexB_cheap (hs : Region.noSelect ops = true) (h : cheapL md ops ops.toList 0 = true) : Region.lexB md ops = true := by
  unfold Region.lexB
  rw [hs, Bool.true_and]
  have := lexFrom_cheap (md := md) (ops := ops) ops.toList 0 (Array.replicate ops.size false) (by simp) (by simp) (by simp) (fun j hj => by simp [hj]) h
  simpa using this
/-- The region, walked in the order of the text. -/
theorem wp_region_quiet_cheap {id : Nat} {Q : Exit → Act → World → Prop} {a : Act} {w : World} {l : List Oper} (hm : P.follows .mixedOrders = true) (hs : Region.noSelect l.toArray = true) (hB : cheapL .any l.toArray l 0 = true)
    (h : wpQuiet P l.toArray (fun w' => ∃ n, w' = w.drewN n) (fun a' => ∀ w', (∃ n, w' = w.drewN n) → Q .normal a' w') l a) : (Code.region id l.toArray true).wp P Q a w :=
  wp_region_quiet_lit hm (lexB_cheap hs (by simpa using hB)) h
end
end Go.Proofs.Ytllblmoojohffaa
