/- Shares of amounts, rounded to the even one: plain numbers. No condition. -/
import Derived.Test.YtllblmoojohffaaEvenMath
namespace Go.Proofs.Ytllblmoojohffaa.EvM
/-- The quotient of 128 bits, rounded to the even one; false: it is too great. -/
def evQ (hi lo den : Int) : Int × Bool :=
  if den ≤ hi then (0, false) else
  if evenN (hi * 18446744073709551616 + lo).toNat den.toNat < 18446744073709551616 then ((evenN (hi * 18446744073709551616 + lo).toNat den.toNat : Int), true) else (0, false)
def mayM (v : Int) : Bool := decide (-1000000000000000 ≤ v) && decide (v ≤ 1000000000000000)
def shQ (a num den : Int) : Nat := evenN (a.natAbs * num.toNat) den.toNat
/-- So many parts of an amount, and why not. -/
def shareR (a num den : Int) : Int × Int :=
  if num < 0 ∨ den ≤ 0 then (0, 1) else if mayM a = false then (0, 5) else if 1000000000000000 < shQ a num den then (0, 5) else (if a < 0 then -(shQ a num den : Int) else (shQ a num den : Int), 0)
theorem mayM_iff {v : Int} : mayM v = true ↔ -1000000000000000 ≤ v ∧ v ≤ 1000000000000000 := by simp [mayM]
theorem mayM_no {v : Int} : mayM v = false ↔ v < -1000000000000000 ∨ 1000000000000000 < v := by
  rw [← Bool.not_eq_true, mayM_iff]; omega
theorem shQ_mul (a num den : Int) : shQ a num den = evenN (a.natAbs * num.toNat) den.toNat := rfl
/-- The code's way: by both halves of the product. -/
theorem shQ_ev (a num den q : Int) (b : Bool) (_hn : 0 ≤ num) (hd : 0 < den) (h : evQ ((a.natAbs * num.toNat / 18446744073709551616 : Nat) : Int) ((a.natAbs * num.toNat % 18446744073709551616 : Nat) : Int) den = (q, b)) :
    (b = true → q = (shQ a num den : Int)) ∧ (b = false → 1000000000000000 < shQ a num den) := by
  unfold shQ
  obtain ⟨m, hm⟩ : ∃ m, a.natAbs * num.toNat = m := ⟨_, rfl⟩
  rw [hm] at h ⊢
  obtain ⟨d, rfl⟩ := Int.eq_ofNat_of_zero_le (show 0 ≤ den by omega)
  rw [Int.toNat_natCast]
  unfold evQ at h
  split at h
  · rename_i hc
    injection h with h1 h2
    subst h2
    refine ⟨fun h => by simp at h, fun _ => ?_⟩
    have h3 := even_ge m d
    have h4 : m / 18446744073709551616 * 18446744073709551616 ≤ m := Nat.div_mul_le_self _ _
    have h5 : d * 18446744073709551616 ≤ m := Nat.le_trans (Nat.mul_le_mul_right _ (Int.ofNat_le.1 hc)) h4
    have h6 : 18446744073709551616 ≤ m / d := (Nat.le_div_iff_mul_le (by omega)).2 (by rw [Nat.mul_comm]; with_reducible exact h5)
    omega
  · rename_i hc
    have e : ((m / 18446744073709551616 : Nat) : Int) * 18446744073709551616 + ((m % 18446744073709551616 : Nat) : Int) = (m : Int) := by omega
    rw [e, Int.toNat_natCast, Int.toNat_natCast] at h
    split at h
    · injection h with h1 h2
      subst h2; subst h1
      exact ⟨fun _ => rfl, fun h => by simp at h⟩
    · injection h with h1 h2
      subst h2
      refine ⟨fun h => by simp at h, fun _ => by omega⟩
theorem natAbs_mul_toNat (a num : Int) (h : 0 ≤ num) : ((a.natAbs * num.toNat : Nat) : Int) = if a < 0 then -(a * num) else a * num := by
  rw [Int.natCast_mul, Int.toNat_of_nonneg h]
  split
  · rw [show ((a.natAbs : Nat) : Int) = -a by omega, Int.neg_mul]
  · rw [show ((a.natAbs : Nat) : Int) = a by omega]
/-- What is rounded is off by half of one at most, and by just half only to an even one. -/
theorem share_off (a num den : Int) (hn : 0 ≤ num) (hd : 0 < den) (x : Int) (h : shareR a num den = (x, 0)) :
    (2 * (x * den) < 2 * (a * num) + den ∧ 2 * (a * num) < 2 * (x * den) + den) ∨ ((2 * (x * den) = 2 * (a * num) + den ∨ 2 * (a * num) = 2 * (x * den) + den) ∧ x % 2 = 0) := by
  unfold shareR at h
  rw [if_neg (by omega)] at h
  split at h
  · injection h with _ h2; cases h2
  · split at h
    · injection h with _ h2; cases h2
    · injection h with h1 _
      obtain ⟨d, rfl⟩ := Int.eq_ofNat_of_zero_le (show 0 ≤ den by omega)
      have hk := even_off (a.natAbs * num.toNat) d (by omega)
      have hm := natAbs_mul_toNat a num hn
      unfold shQ at h1
      rw [Int.toNat_natCast] at h1
      obtain ⟨q, hq⟩ : ∃ q, evenN (a.natAbs * num.toNat) d = q := ⟨_, rfl⟩
      rw [hq] at hk h1
      have hqd : ((q * d : Nat) : Int) = (q : Int) * (d : Int) := Int.natCast_mul q d
      generalize a.natAbs * num.toNat = m at *
      generalize q * d = A at *
      generalize a * num = P at *
      subst h1
      by_cases ha : a < 0
      · rw [if_pos ha] at hm ⊢
        rw [Int.neg_mul, ← hqd]
        omega
      · rw [if_neg ha] at hm ⊢
        rw [← hqd]
        omega
/-- Where the parts are no more than the whole there is a share. -/
theorem share_ok (a num den : Int) (hn : 0 ≤ num) (hd : 0 < den) (ha : mayM a = true) (hq : shQ a num den ≤ 1000000000000000) : shareR a num den = (if a < 0 then -(shQ a num den : Int) else (shQ a num den : Int), 0) := by
  unfold shareR
  rw [if_neg (by omega), if_neg (by rw [ha]; simp), if_neg (by omega)]
theorem shQ_le (a num den : Int) (_hn : 0 ≤ num) (hd : 0 < den) (h : num ≤ den) : shQ a num den ≤ a.natAbs := by
  unfold shQ
  have h1 : a.natAbs * num.toNat ≤ a.natAbs * den.toNat := Nat.mul_le_mul_left _ (by omega)
  have h2 := even_mono (d := den.toNat) (by omega) h1
  rwa [even_mul _ _ (by omega)] at h2
theorem shQ_le2 (a num den : Int) (_hd : 0 < den) (B : Nat) (h : a.natAbs * num.toNat ≤ B) : shQ a num den ≤ B + 1 := by
  unfold shQ
  have := even_le (a.natAbs * num.toNat) den.toNat
  have h2 : a.natAbs * num.toNat / den.toNat ≤ a.natAbs * num.toNat := Nat.div_le_self _ _
  omega
theorem share_all (a n : Int) (hn : 0 < n) (ha : mayM a = true) : shareR a n n = (a, 0) := by
  have e : shQ a n n = a.natAbs := even_mul _ _ (by omega)
  have h := mayM_iff.1 ha
  rw [share_ok a n n (by omega) hn ha (by rw [e]; omega), e]
  congr 1
  split <;> omega
theorem share_none (a n : Int) (hn : 0 < n) (ha : mayM a = true) : shareR a 0 n = (0, 0) := by
  have e : shQ a 0 n = 0 := by
    unfold shQ
    rw [show (0 : Int).toNat = 0 from rfl, Nat.mul_zero]
    exact even_zero _ (by omega)
  rw [share_ok a 0 n (by omega) hn ha (by rw [e]; omega), e]
  simp
theorem share_neg (a n d : Int) (hn : 0 ≤ n) (hd : 0 < d) (h : n ≤ d) (ha : mayM a = true) : ∃ u : Int, shareR a n d = (u, 0) ∧ shareR (-a) n d = (-u, 0) ∧ -1000000000000000 ≤ u ∧ u ≤ 1000000000000000 := by
  have h1 := mayM_iff.1 ha
  have e : shQ (-a) n d = shQ a n d := by unfold shQ; rw [Int.natAbs_neg]
  have hb := shQ_le a n d hn hd h
  have ha' : mayM (-a) = true := mayM_iff.2 (by omega)
  refine ⟨_, share_ok a n d hn hd ha (by omega), ?_, ?_⟩
  · rw [share_ok (-a) n d hn hd ha' (by rw [e]; omega), e]
    have hz : a = 0 → shQ a n d = 0 := fun h => by subst h; simp at hb; omega
    congr 1
    by_cases h0 : a = 0
    · have := hz h0; rw [this]; simp
    · by_cases h2 : a < 0
      · rw [if_pos h2, if_neg (by omega)]; omega
      · rw [if_neg h2, if_pos (by omega)]
  · constructor <;> split <;> omega
/-- What lies just between two goes to the even one. -/
theorem tie_nat (k t : Nat) (ht : 0 < t) : evenN (2 * t * k + t) (2 * t) = if k % 2 = 0 then k else k + 1 := by
  rw [Nat.mul_comm (2 * t) k, even_of _ _ _ (by omega)]
  by_cases h : k % 2 = 0
  · rw [if_pos h, if_pos (Or.inr ⟨by omega, h⟩)]
  · rw [if_neg h, if_neg (by omega)]
def tieI (n : Int) : Int := if n % 2 = 0 then n else n + 1
theorem share_tie (n t : Int) (ht : 0 < t) (ht2 : t ≤ 2) (hn : -100000000 < n ∧ n < 100000000) : shareR (2 * t * n + t) 1 (2 * t) = (tieI n, 0) := by
  have hb : mayM (2 * t * n + t) = true := by
    rw [mayM_iff]
    rcases (show t = 1 ∨ t = 2 by omega) with rfl | rfl <;> omega
  have key : (2 * t * n + t < 0 → shQ (2 * t * n + t) 1 (2 * t) = (-(tieI n)).toNat ∧ tieI n ≤ 0) ∧ (¬ 2 * t * n + t < 0 → shQ (2 * t * n + t) 1 (2 * t) = (tieI n).toNat ∧ 0 ≤ tieI n) := by
    unfold shQ
    rw [show (1 : Int).toNat = 1 from rfl, Nat.mul_one]
    rcases (show t = 1 ∨ t = 2 by omega) with rfl | rfl
    all_goals
      constructor
      · intro h
        have hk : n < 0 := by omega
        obtain ⟨k, rfl⟩ : ∃ k : Nat, n = -(k : Int) - 1 := ⟨(-n - 1).toNat, by omega⟩
        first
          | (have e : (2 * 1 * (-(k : Int) - 1) + 1).natAbs = 2 * 1 * k + 1 := by omega
             rw [e, show ((2 * 1 : Int)).toNat = 2 * 1 from rfl, tie_nat k 1 (by omega)])
          | (have e : (2 * 2 * (-(k : Int) - 1) + 2).natAbs = 2 * 2 * k + 2 := by omega
             rw [e, show ((2 * 2 : Int)).toNat = 2 * 2 from rfl, tie_nat k 2 (by omega)])
        unfold tieI
        split <;> split <;> omega
      · intro h
        have hk : 0 ≤ n := by omega
        obtain ⟨k, rfl⟩ := Int.eq_ofNat_of_zero_le hk
        first
          | (have e : (2 * 1 * (k : Int) + 1).natAbs = 2 * 1 * k + 1 := by omega
             rw [e, show ((2 * 1 : Int)).toNat = 2 * 1 from rfl, tie_nat k 1 (by omega)])
          | (have e : (2 * 2 * (k : Int) + 2).natAbs = 2 * 2 * k + 2 := by omega
             rw [e, show ((2 * 2 : Int)).toNat = 2 * 2 from rfl, tie_nat k 2 (by omega)])
        unfold tieI
        split <;> split <;> omega
  have ht' : -100000000 ≤ tieI n ∧ tieI n ≤ 100000000 := by unfold tieI; split <;> omega
  by_cases h : 2 * t * n + t < 0
  · obtain ⟨h1, h2⟩ := key.1 h
    rw [share_ok _ _ _ (by omega) (by omega) hb (by rw [h1]; omega), h1, if_pos h]
    congr 1; omega
  · obtain ⟨h1, h2⟩ := key.2 h
    rw [share_ok _ _ _ (by omega) (by omega) hb (by rw [h1]; omega), h1, if_neg h]
    congr 1; omega
theorem tieI_is (n : Int) : tieI n % 2 = 0 ∧ (tieI n = n ∨ tieI n = n + 1) := by unfold tieI; split <;> omega
end Go.Proofs.Ytllblmoojohffaa.EvM
