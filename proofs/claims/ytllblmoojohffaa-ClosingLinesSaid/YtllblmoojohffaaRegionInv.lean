/- A region that draws its order, by an invariant over what has come up: each operation is looked at once, whatever came up ahead of it. -/
import Derived.Test.YtllblmoojohffaaLib
import Derived.OrdersHeld
import Derived.RegionTactic
namespace Go.Proofs.Ytllblmoojohffaa
open Go.RowKit

/-- How many have not come up. -/
def cntF : List Bool → Nat
  | [] => 0
  | b :: l => (if b then 0 else 1) + cntF l
theorem cntF_set (l : List Bool) (i : Nat) (h : l[i]? = some false) : cntF (l.set i true) + 1 = cntF l := by
  induction l generalizing i with
  | nil => simp at h
  | cons b l ih =>
    cases i with
    | zero =>
      simp at h
      subst h
      simp [cntF]
      omega
    | succ i =>
      have := ih i (by simpa using h)
      simp only [List.set_cons_succ, cntF]
      omega
theorem cntF_zero (l : List Bool) (h : cntF l = 0) (i : Nat) (hi : i < l.length) : l[i]? = some true := by
  induction l generalizing i with
  | nil => simp at hi
  | cons b l ih =>
    cases b with
    | false => simp [cntF] at h
    | true =>
      cases i with
      | zero => rfl
      | succ i =>
        have := ih (by simpa [cntF] using h) i (by simpa using hi)
        simpa using this
theorem cntF_all (n : Nat) : cntF (List.replicate n false) = n := by
  induction n with
  | zero => rfl
  | succ n ih =>
    simp only [List.replicate_succ, cntF, ih]
    simp
    omega
section
variable {P : Program} {md : Region.Mode} {ops : Array Oper} {Q : Exit → Act → World → Prop}
/-- Each operation waits for earlier ones alone. -/
def lowB (md : Region.Mode) (ops : Array Oper) : Bool := (List.range ops.size).all fun i => ((ops[i]?).map (·.after.all fun e => !Region.binds md e || decide (e.on < i))).getD true
theorem all_of_ready (hlow : lowB md ops = true) {listed : Array Bool} (hs : listed.size = ops.size) (h : Region.ready md ops listed = []) (i : Nat) (hi : i < ops.size) : listed.getD i false = true := by
  induction i using Nat.strongRecOn with
  | _ i ih =>
    cases hl : listed.getD i false with
    | true => rfl
    | false =>
      exfalso
      have hm : i ∈ Region.ready md ops listed := by
        refine mem_ready.2 ⟨?_, ops[i], by simp [hi], ?_⟩
        · have : i < listed.size := by omega
          simp [this] at hl ⊢
          exact hl
        · intro e he hb
          have hl2 := List.all_eq_true.1 hlow i (List.mem_range.2 hi)
          rw [Array.getElem?_eq_getElem hi] at hl2
          simp only [Option.map_some, Option.getD_some] at hl2
          have h3 := Array.all_eq_true'.1 hl2 e he
          rw [hb] at h3
          simp at h3
          exact ih e.on h3 (by omega)
      rw [h] at hm
      cases hm
theorem wpAny_inv (J : Array Bool → Act → World → Prop) (hlow : lowB md ops = true)
    (step : ∀ listed a w, listed.size = ops.size → J listed a w → ∀ i o, ops[i]? = some o → listed.getD i true = false → (∀ e ∈ o.after, Region.binds md e = true → listed.getD e.on false = true) → wpOp P ops Q i (fun a' w' => J (listed.setIfInBounds i true) a' w') a w)
    (fin : ∀ listed a w, listed.size = ops.size → (∀ i, i < ops.size → listed.getD i false = true) → J listed a w → Q .normal a w) :
    ∀ (fuel : Nat) (listed : Array Bool) (a : Act) (w : World), listed.size = ops.size → cntF listed.toList = fuel → J listed a w → wpAny P md ops Q fuel listed a w := by
  intro fuel
  induction fuel with
  | zero =>
    intro listed a w hs hc hJ
    have hall : ∀ i, i < ops.size → listed.getD i false = true := fun i hi => by
      have := cntF_zero _ hc i (by simpa using (by omega : i < listed.size))
      have hi2 : i < listed.size := by omega
      simp [hi2] at this ⊢
      exact this
    refine ⟨?_, fin listed a w hs hall hJ⟩
    refine List.eq_nil_iff_forall_not_mem.2 fun i hi => ?_
    obtain ⟨h1, o, ho, _⟩ := mem_ready.1 hi
    have hi2 : i < ops.size := (Array.getElem?_eq_some_iff.1 ho).1
    have h2 := hall i hi2
    have hi3 : i < listed.size := by omega
    simp [hi3] at h1 h2
    rw [h2] at h1
    cases h1
  | succ fuel ih =>
    intro listed a w hs hc hJ
    refine ⟨fun h => fin listed a w hs (all_of_ready hlow hs h) hJ, fun i hi => ?_⟩
    obtain ⟨h1, o, ho, hd⟩ := mem_ready.1 hi
    refine wpOp_mono (fun a' w' hJ' => ih _ a' w' (by simpa using hs) ?_ hJ') (step listed a w hs hJ i o ho h1 hd)
    have hi2 : i < ops.size := (Array.getElem?_eq_some_iff.1 ho).1
    have hi3 : i < listed.size := by omega
    have h4 : listed.toList[i]? = some false := by
      simp [hi3] at h1 ⊢
      exact h1
    have := cntF_set _ _ h4
    rw [Array.toList_setIfInBounds]
    omega
/-- The region, by the invariant. -/
theorem wp_region_inv {id : Nat} {a : Act} {w : World} (J : Array Bool → Act → World → Prop) (hm : P.follows .mixedOrders = true) (hlow : lowB .any ops = true)
    (start : J (Array.replicate ops.size false) a w.drew)
    (step : ∀ listed a w, listed.size = ops.size → J listed a w → ∀ i o, ops[i]? = some o → listed.getD i true = false → (∀ e ∈ o.after, Region.binds .any e = true → listed.getD e.on false = true) → wpOp P ops Q i (fun a' w' => J (listed.setIfInBounds i true) a' w') a w)
    (fin : ∀ listed a w, listed.size = ops.size → (∀ i, i < ops.size → listed.getD i false = true) → J listed a w → Q .normal a w) : (Code.region id ops true).wp P Q a w :=
  wp_region_any hm (wpAny_inv J hlow step fin _ _ _ _ (by simp) (by simp [cntF_all]) start)
end
end Go.Proofs.Ytllblmoojohffaa
