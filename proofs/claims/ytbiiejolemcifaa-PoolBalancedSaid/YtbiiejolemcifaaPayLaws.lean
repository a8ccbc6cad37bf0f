/- What a payment does, in plain lists: all goes, none gets more than it has, the first of the order first, two payments are as one. -/
import Derived.Test.YtbiiejolemcifaaPayMath
import Derived.Test.YtbiiejolemcifaaRankLaws
namespace Go.Proofs.Ytbiiejolemcifaa

/-- Each number 1 .. n once. -/
structure Ord (ks : List Int) (n : Nat) : Prop where
  len : ks.length = n
  rng : ∀ i, i < n → 1 ≤ ks.getD i 0 ∧ ks.getD i 0 ≤ n
  ne : ∀ i j, i < j → j < n → ks.getD i 0 ≠ ks.getD j 0
  all : ∀ j, j < n → ∃ i, i < n ∧ ks.getD i 0 = (j : Int) + 1
theorem rank_ord (lt : Int → Int → Bool) (xs : List Int) (n : Nat) : Ord (rankL lt xs n) n := by
  have hl := rankL_length lt xs n
  refine ⟨hl, fun i hi => rankL_at hi, ?_, ?_⟩
  · intro i j hij hj e
    have e1 : (rankL lt xs n).getD i 0 = (rankL lt xs n)[i]'(by omega) := by simp [List.getD, hl, show i < n by omega]
    have e2 : (rankL lt xs n).getD j 0 = (rankL lt xs n)[j]'(by omega) := by simp [List.getD, hl, hj]
    rw [e1, e2] at e
    have := (List.getElem_inj (rankL_nodup lt xs n)).1 e
    omega
  · intro j hj
    have hm : ((j : Int) + 1) ∈ rankL lt xs n := by
      refine (rankL_perm lt xs n).mem_iff.2 ?_
      simp
      exact ⟨j, hj, rfl⟩
    obtain ⟨i, hi, e⟩ := List.getElem_of_mem hm
    refine ⟨i, by omega, ?_⟩
    rw [← e]
    simp [List.getD, hi]
section
variable {bal ks : List Int} {n : Nat} (ho : Ord ks n) (hl : bal.length = n) {a : Int}
/-- The place that the order names as its i-th. -/
def at_ (ks : List Int) (i : Nat) : Nat := (ks.getD i 0 - 1).toNat
def took (bal ks : List Int) (a : Int) (i : Nat) : Int := min (fill bal ks a i).2 (bal.getD (at_ ks i) 0)
include ho in
theorem at_lt {i : Nat} (hi : i < n) : at_ ks i < n := by
  have := ho.rng i hi
  unfold at_
  omega
include ho in
theorem at_ne {i j : Nat} (hi : i < n) (hj : j < n) (h : i ≠ j) : at_ ks i ≠ at_ ks j := by
  have h1 := ho.rng i hi
  have h2 := ho.rng j hj
  have h3 : ks.getD i 0 ≠ ks.getD j 0 := by
    rcases Nat.lt_or_gt_of_ne h with h | h
    · exact ho.ne i j h hj
    · exact fun e => ho.ne j i h hi e.symm
  unfold at_
  omega
include ho in
theorem at_all {j : Nat} (hj : j < n) : ∃ i, i < n ∧ at_ ks i = j := by
  obtain ⟨i, hi, e⟩ := ho.all j hj
  exact ⟨i, hi, by unfold at_; omega⟩
theorem left_succ (i : Nat) : (fill bal ks a (i + 1)).2 = (fill bal ks a i).2 - took bal ks a i := rfl
theorem list_succ (i : Nat) : (fill bal ks a (i + 1)).1 = (fill bal ks a i).1.set (at_ ks i) (took bal ks a i) := rfl
include hl in
theorem fill_new {j : Nat} (hj : j < n) (i : Nat) (h : ∀ k, k < i → at_ ks k ≠ j) : (fill bal ks a i).1.getD j 0 = 0 := by
  induction i with
  | zero => simp [fill, List.getD, hl, hj]
  | succ i ih =>
    rw [list_succ, List.getD_eq_getElem?_getD, List.getElem?_set_ne (h i (Nat.lt_succ_self i)), ← List.getD_eq_getElem?_getD]
    exact ih fun k hk => h k (by omega)
include ho hl in
theorem fill_at {i : Nat} (j : Nat) (hj : j ≤ n) (hi : i < j) : (fill bal ks a j).1.getD (at_ ks i) 0 = took bal ks a i := by
  induction j with
  | zero => omega
  | succ j ih =>
    rw [list_succ]
    have hlen := fill_length bal ks a j
    by_cases e : i = j
    · subst e
      have := at_lt ho (i := i) (by omega)
      rw [List.getD_eq_getElem?_getD, List.getElem?_set_self (by omega)]
      rfl
    · have := at_ne ho (i := j) (j := i) (by omega) (by omega) (fun h => e h.symm)
      rw [List.getD_eq_getElem?_getD, List.getElem?_set_ne this, ← List.getD_eq_getElem?_getD]
      exact ih (by omega) (by omega)
theorem sum_set {l : List Int} {k : Nat} {x : Int} (hk : k < l.length) (h0 : l.getD k 0 = 0) : (l.set k x).sum = l.sum + x := by
  induction l generalizing k with
  | nil => simp at hk
  | cons y l ih =>
    cases k with
    | zero =>
      simp [List.getD] at h0
      subst h0
      simp
      omega
    | succ k =>
      have := ih (k := k) (by simpa using hk) (by simpa [List.getD] using h0)
      simp [this]
      omega
include ho hl in
theorem fill_sum (i : Nat) (hi : i ≤ n) : (fill bal ks a i).1.sum + (fill bal ks a i).2 = a := by
  induction i with
  | zero => simp [fill]
  | succ i ih =>
    have h1 := ih (by omega)
    have h2 := at_lt ho (i := i) (by omega)
    have hlen := fill_length bal ks a i
    rw [list_succ, left_succ, sum_set (by omega) (fill_new hl h2 i fun k hk => at_ne ho (by omega) (by omega) (by omega))]
    omega
theorem left_mono (hb : ∀ x ∈ bal, 0 ≤ x) (ha : 0 ≤ a) {i j : Nat} (h : i ≤ j) : (fill bal ks a j).2 ≤ (fill bal ks a i).2 := by
  induction j with
  | zero => obtain rfl : i = 0 := by omega
            exact Int.le_refl _
  | succ j ih =>
    by_cases e : i = j + 1
    · subst e; exact Int.le_refl _
    · have h1 := ih (by omega)
      have h2 := fill_left (ks := ks) ha hb j
      rw [left_succ]
      have h3 : 0 ≤ bal.getD (at_ ks j) 0 := by
        rw [List.getD_eq_getElem?_getD]
        cases hg : bal[at_ ks j]? with
        | none => simp
        | some x => simpa using hb x (List.mem_of_getElem? hg)
      unfold took
      omega
include ho hl in
/-- What the i-th of the order got. -/
theorem filled_at {i : Nat} (hi : i < n) : (filled bal ks a).1.getD (at_ ks i) 0 = took bal ks a i := by
  unfold filled
  rw [ho.len]
  exact fill_at ho hl n (Nat.le_refl _) hi
include ho hl in
theorem filled_sum : (filled bal ks a).1.sum + (filled bal ks a).2 = a := by
  unfold filled
  exact fill_sum ho hl _ (by rw [ho.len]; exact Nat.le_refl _)
theorem took_full (hb : ∀ x ∈ bal, 0 ≤ x) (ha : 0 ≤ a) {i j : Nat} (hij : i < j) (h : 0 < (fill bal ks a j).2) : took bal ks a i = bal.getD (at_ ks i) 0 := by
  have h1 := left_mono (ks := ks) hb ha (show i + 1 ≤ j by omega)
  rw [left_succ] at h1
  unfold took at h1 ⊢
  omega
include ho hl in
/-- Something is left only where all are full. -/
theorem filled_full (hb : ∀ x ∈ bal, 0 ≤ x) (ha : 0 ≤ a) (h : 0 < (filled bal ks a).2) {j : Nat} (hj : j < n) : (filled bal ks a).1.getD j 0 = bal.getD j 0 := by
  obtain ⟨i, hi, rfl⟩ := at_all ho hj
  rw [filled_at ho hl hi]
  refine took_full hb ha (j := ks.length) (by rw [ho.len]; exact hi) h
include ho hl in
/-- The i-th gets something only where all ahead of it are full. -/
theorem filled_first (hb : ∀ x ∈ bal, 0 ≤ x) (ha : 0 ≤ a) {i j : Nat} (hij : i < j) (hj : j < n) (h : 0 < (filled bal ks a).1.getD (at_ ks j) 0) : (filled bal ks a).1.getD (at_ ks i) 0 = bal.getD (at_ ks i) 0 := by
  rw [filled_at ho hl hj] at h
  rw [filled_at ho hl (by omega)]
  refine took_full hb ha hij ?_
  unfold took at h
  omega
end
theorem getD_nn {bal : List Int} (hb : ∀ x ∈ bal, 0 ≤ x) (j : Nat) : 0 ≤ bal.getD j 0 := by
  rw [List.getD_eq_getElem?_getD]
  cases hg : bal[j]? with
  | none => simp
  | some x => simpa using hb x (List.mem_of_getElem? hg)
theorem filled_range {bal ks : List Int} {a : Int} (hb : ∀ x ∈ bal, 0 ≤ x) (ha : 0 ≤ a) {j : Nat} (hj : j < bal.length) : 0 ≤ (filled bal ks a).1.getD j 0 ∧ (filled bal ks a).1.getD j 0 ≤ bal.getD j 0 := fill_range ha hb _ j hj
theorem filled_left {bal ks : List Int} {a : Int} (hb : ∀ x ∈ bal, 0 ≤ x) (ha : 0 ≤ a) : 0 ≤ (filled bal ks a).2 ∧ (filled bal ks a).2 ≤ a := fill_left ha hb _
/-- Two payments are as one. -/
theorem two_pay {bal ks th : List Int} {n : Nat} {a b : Int} (h : ∀ i, i < n → th.getD (at_ ks i) 0 = bal.getD (at_ ks i) 0 - took bal ks a i) (hb : ∀ x ∈ bal, 0 ≤ x) (ha : 0 ≤ a) (hbb : 0 ≤ b) :
    ∀ i, i ≤ n → (fill bal ks (a + b) i).2 = (fill bal ks a i).2 + (fill th ks b i).2 ∧ 0 ≤ (fill bal ks a i).2 ∧ 0 ≤ (fill th ks b i).2 := by
  intro i hi
  induction i with
  | zero => simp [fill]; omega
  | succ i ih =>
    obtain ⟨h1, h2, h3⟩ := ih (by omega)
    have h4 := h i (by omega)
    have h5 := getD_nn hb (at_ ks i)
    rw [left_succ, left_succ, left_succ]
    unfold took at h4 ⊢
    rw [h4, h1]
    omega
theorem two_took {bal ks th : List Int} {n : Nat} {a b : Int} (h : ∀ i, i < n → th.getD (at_ ks i) 0 = bal.getD (at_ ks i) 0 - took bal ks a i) (hb : ∀ x ∈ bal, 0 ≤ x) (ha : 0 ≤ a) (hbb : 0 ≤ b) {i : Nat} (hi : i < n) :
    took bal ks (a + b) i = took bal ks a i + took th ks b i := by
  obtain ⟨h1, h2, h3⟩ := two_pay h hb ha hbb i (by omega)
  have h4 := h i hi
  have h5 := getD_nn hb (at_ ks i)
  unfold took at h4 ⊢
  rw [h4, h1]
  omega
theorem steps {bal ks : List Int} {n : Nat} (ho : Ord ks n) (hl : bal.length = n) {a b : Int} (hb : ∀ x ∈ bal, 0 ≤ x) (ha : 0 ≤ a) (hbb : 0 ≤ b) :
    (filled bal ks (a + b)).2 = (filled bal ks a).2 + (filled (subL bal (filled bal ks a).1) ks b).2 ∧ ∀ j, j < n → (filled bal ks (a + b)).1.getD j 0 = (filled bal ks a).1.getD j 0 + (filled (subL bal (filled bal ks a).1) ks b).1.getD j 0 := by
  have hf := filled_length bal ks a
  have ht : (subL bal (filled bal ks a).1).length = n := by unfold subL; rw [List.length_zipWith]; omega
  have h : ∀ i, i < n → (subL bal (filled bal ks a).1).getD (at_ ks i) 0 = bal.getD (at_ ks i) 0 - took bal ks a i := by
    intro i hi
    have := at_lt ho hi
    rw [getD_subL (by omega) (by omega), filled_at ho hl hi]
  refine ⟨?_, ?_⟩
  · have := (two_pay h hb ha hbb ks.length (by rw [ho.len]; exact Nat.le_refl _)).1
    exact this
  · intro j hj
    obtain ⟨i, hi, rfl⟩ := at_all ho hj
    rw [filled_at ho hl hi, filled_at ho hl hi, filled_at ho ht hi]
    exact two_took h hb ha hbb hi
end Go.Proofs.Ytbiiejolemcifaa
