/- How a payment is spread, in plain lists. -/
import Derived.Test.YtbiiejolemcifaaFallInto
import Derived.Test.YtbiiejolemcifaaMix
import Derived.Test.YtbiiejolemcifaaRankLow
import Derived.Test.YtbiiejolemcifaaRankHigh
namespace Go.Proofs.Ytbiiejolemcifaa
open Go.RowKit

def subL (a b : List Int) : List Int := List.zipWith (fun x y => x - y) a b
def addL (a b : List Int) : List Int := List.zipWith (fun x y => x + y) a b
/-- What goes first; what is left of it; what is left in each; what goes then; what is left. -/
def pay1 (bal rates : List Int) (d : Int) : List Int × Int := filled bal (rankL ltLow rates rates.length) d
def payRest (bal rates : List Int) (d : Int) : List Int := subL bal (pay1 bal rates d).1
def pay2 (bal rates : List Int) (due amount : Int) : List Int × Int :=
  filled (payRest bal rates (min amount due)) (rankL ltHigh rates rates.length) (amount - min amount due + (pay1 bal rates (min amount due)).2)
/-- What Pay answers. -/
def payR (bal : List Int) (credit due : Int) (rates : List Int) (amount : Int) : List Int × Int × Int × Int :=
  if (rates.length == bal.length && !bal.any badMoney && !badMoney credit && !badMoney due && !badMoney amount) = true then
    (addL (pay1 bal rates (min amount due)).1 (pay2 bal rates due amount).1, min amount due, (pay2 bal rates due amount).2, 0)
  else ([], 0, 0, 1)
def Pay4 (r : List Int × Int × Int × Int) (w : World) (e : Ending) (w' : World) : Prop :=
  ∃ u, e = .returned (.tuple #[u, .int .i64 r.2.1, .int .i64 r.2.2.1, .int .i64 r.2.2.2]) ∧ Sl .i64 w' u r.1 ∧ Below w.heap.size w w'

theorem getD_subL {a b : List Int} {i : Nat} (h1 : i < a.length) (h2 : i < b.length) : (subL a b).getD i 0 = a.getD i 0 - b.getD i 0 := by
  simp [subL, List.getD, List.getElem?_zipWith, h1, h2]
theorem getD_addL {a b : List Int} {i : Nat} (h1 : i < a.length) (h2 : i < b.length) : (addL a b).getD i 0 = a.getD i 0 + b.getD i 0 := by
  simp [addL, List.getD, List.getElem?_zipWith, h1, h2]
theorem filled_length (bal ks : List Int) (a : Int) : (filled bal ks a).1.length = bal.length := fill_length bal ks a _
/-- None gets below 0, none more than it has. -/
theorem fill_range {bal ks : List Int} {amount : Int} (ha : 0 ≤ amount) (hb : ∀ x ∈ bal, 0 ≤ x) (i : Nat) : ∀ j, j < bal.length → 0 ≤ (fill bal ks amount i).1.getD j 0 ∧ (fill bal ks amount i).1.getD j 0 ≤ bal.getD j 0 := by
  have hb' : ∀ j, j < bal.length → 0 ≤ bal.getD j 0 := fun j hj => by
    have := hb bal[j] (List.getElem_mem hj)
    simpa [List.getD, hj] using this
  induction i with
  | zero =>
    intro j hj
    have := hb' j hj
    simp only [fill]
    have e : (List.replicate bal.length (0 : Int)).getD j 0 = 0 := by simp [List.getD, hj]
    rw [e]
    omega
  | succ i ih =>
    intro j hj
    have hl := fill_length bal ks amount i
    have h1 := ih j hj
    have h2 := fill_left (ks := ks) ha hb i
    simp only [fill]
    generalize hk : (ks.getD i 0 - 1).toNat = k
    generalize hL : (fill bal ks amount i).1 = L at hl h1 ⊢
    generalize (fill bal ks amount i).2 = A at h2 ⊢
    by_cases e : k = j
    · subst e
      have e2 : (L.set k (min A (bal.getD k 0))).getD k 0 = min A (bal.getD k 0) := by simp [List.getD, show k < L.length by omega]
      rw [e2]
      have := hb' k hj
      omega
    · have e2 : (L.set k (min A (bal.getD k 0))).getD j 0 = L.getD j 0 := by simp [List.getD, e]
      rw [e2]
      exact h1
theorem rank_range (lt : Int → Int → Bool) (xs : List Int) {n : Nat} (hn : xs.length = n) : ∀ i, i < (rankL lt xs xs.length).length → 1 ≤ (rankL lt xs xs.length).getD i 0 ∧ (rankL lt xs xs.length).getD i 0 ≤ n := by
  intro i hi
  rw [rankL_length] at hi
  have := rankL_at (lt := lt) (xs := xs) hi
  omega
theorem payRest_range {bal rates : List Int} {d : Int} (hd : 0 ≤ d) (hb : ∀ x ∈ bal, 0 ≤ x ∧ x ≤ 1000000000000000) : ∀ x ∈ payRest bal rates d, 0 ≤ x ∧ x ≤ 1000000000000000 := by
  intro x hx
  obtain ⟨j, hj, rfl⟩ := List.getElem_of_mem hx
  have hl := filled_length bal (rankL ltLow rates rates.length) d
  have hj' : j < bal.length := by
    unfold payRest subL pay1 at hj
    rw [List.length_zipWith] at hj
    omega
  have h1 := fill_range (ks := rankL ltLow rates rates.length) hd (fun x hx => (hb x hx).1) (rankL ltLow rates rates.length).length j hj'
  have h2 := getD_subL (a := bal) (b := (pay1 bal rates d).1) hj' (by unfold pay1; omega)
  have e : (payRest bal rates d)[j] = (payRest bal rates d).getD j 0 := by simp [List.getD, hj]
  rw [e]
  unfold payRest
  rw [h2]
  have h3 := hb bal[j] (List.getElem_mem hj')
  have e3 : bal[j] = bal.getD j 0 := by simp [List.getD, hj']
  rw [e3] at h3
  unfold pay1 filled
  omega
theorem payRest_length {bal rates : List Int} {d : Int} : (payRest bal rates d).length = bal.length := by
  unfold payRest subL
  rw [List.length_zipWith]
  have := filled_length bal (rankL ltLow rates rates.length) d
  unfold pay1
  omega

theorem pull {p : Prop} {P : Nat → Prop} (h : p → ∃ g, P g) : ∃ g, p → P g := by
  by_cases hp : p
  · obtain ⟨g, hg⟩ := h hp
    exact ⟨g, fun _ => hg⟩
  · exact ⟨0, fun h => absurd h hp⟩
theorem sl_empty {k : IntKind} {w : World} {ao : Option Addr} {n cap : Nat} {xs : List Int} (hl : xs.length = n) (hn : n = 0) (hm : cap ≤ maxLen) (hc : ao = none → cap = 0) : Sl k w (.slice ao n cap) xs := by
  subst hn
  obtain rfl : xs = [] := List.eq_nil_of_length_eq_zero hl
  exact ⟨ao, cap, rfl, Nat.zero_le _, ⟨hm, hc⟩, fun h => absurd rfl h⟩
theorem results_tmp4 {fn : Func} {t u v x : Tmp} (h : fn.results = #[.tmp t, .tmp u, .tmp v, .tmp x]) (tmps : Array Value) (P : Program) (w : World) :
    (results fn tmps).run P w = .ok (.tuple #[tmps.getD t undef, tmps.getD u undef, tmps.getD v undef, tmps.getD x undef]) w := by
  simp [results, h]
end Go.Proofs.Ytbiiejolemcifaa
