/- What terms.Pack and terms.Take are to each other: plain mathematics. -/
import Derived.Test.YtdjfpbjlmojikaaTakeMath
import Derived.Test.YtdjfpbjlmojikaaTermsPack
namespace Go.Proofs.Ytdjfpbjlmojikaa
open Go.RowKit

theorem drop8 (v : Int) (l : List Int) (n : Nat) : (be8 v ++ l).drop (8 + n) = l.drop n := by
  rw [List.drop_append, be8_length, List.drop_eq_nil_of_le (by rw [be8_length]; omega)]
  simp
theorem cut8 (l : List Int) (n : Nat) (h : n + 8 ≤ l.length) (hb : Byts l) : be8 (num8 (l.drop n)) ++ l.drop (n + 8) = l.drop n := by
  have e : num8 (l.drop n) = num8 ((l.drop n).take 8) := by simp [num8, List.take_take]
  rw [e, be8_num8 ((hb.drop n).take 8) (by rw [List.length_take, List.length_drop]; omega)]
  rw [← List.drop_drop, List.take_append_drop]
theorem flat9_drop (ts : List (Int × Bool)) (k : Nat) : (ts.flatMap be9).drop (9 * k) = (ts.drop k).flatMap be9 := by
  induction k generalizing ts with
  | zero => simp
  | succ k ih =>
    cases ts with
    | nil => simp
    | cons x ts =>
      rw [List.flatMap_cons, List.drop_succ_cons, ← ih, show 9 * (k + 1) = 9 + 9 * k by omega, List.drop_append, be9_length, List.drop_eq_nil_of_le (by rw [be9_length]; omega)]
      simp
theorem packT_length (lim : Int) (ts : List (Int × Bool)) (cyc dued minf minp start : Int) : (packT lim ts cyc dued minf minp start).length = 56 + 9 * ts.length := by
  rw [packT, List.length_append, flat9_length, flat8_length]
  simp only [List.length_cons, List.length_nil]
theorem packT_drop (lim : Int) (ts : List (Int × Bool)) (cyc dued minf minp start : Int) (k : Nat) : (packT lim ts cyc dued minf minp start).drop (56 + 9 * k) = (ts.drop k).flatMap be9 := by
  rw [packT, List.drop_append, flat8_length, List.drop_eq_nil_of_le (by rw [flat8_length]; simp only [List.length_cons, List.length_nil]; omega)]
  simp only [List.length_cons, List.length_nil, List.nil_append]
  rw [show 56 + 9 * k - 8 * (0 + 1 + 1 + 1 + 1 + 1 + 1 + 1) = 9 * k by omega, flat9_drop]
theorem packT_tail {ts : List (Int × Bool)} (lim cyc dued minf minp start : Int) {k : Nat} (h : k < ts.length) :
    (packT lim ts cyc dued minf minp start).drop (56 + 9 * k) = be8 (ts.getD k (0, false)).1 ++ ((if (ts.getD k (0, false)).2 then 1 else 0) :: (ts.drop (k + 1)).flatMap be9) := by
  rw [packT_drop, List.drop_eq_getElem_cons h, List.flatMap_cons]
  simp [be9, List.getD, h]
theorem packT_flag {ts : List (Int × Bool)} (lim cyc dued minf minp start : Int) {k : Nat} (h : k < ts.length) :
    (packT lim ts cyc dued minf minp start).getD (64 + 9 * k) 0 = if (ts.getD k (0, false)).2 then 1 else 0 := by
  have e := packT_tail lim cyc dued minf minp start h
  have e2 : (packT lim ts cyc dued minf minp start).getD (64 + 9 * k) 0 = ((packT lim ts cyc dued minf minp start).drop (56 + 9 * k)).getD 8 0 := by
    simp only [List.getD, List.getElem?_drop]
    rw [show 56 + 9 * k + 8 = 64 + 9 * k by omega]
  rw [e2, e]
  rfl
theorem packT_nums {ts : List (Int × Bool)} {lim cyc dued minf minp start : Int} (hr : rightT lim ts cyc dued minf minp start = true) :
    num8 (packT lim ts cyc dued minf minp start) = lim ∧ num8 ((packT lim ts cyc dued minf minp start).drop 8) = cyc ∧ num8 ((packT lim ts cyc dued minf minp start).drop 16) = dued ∧
    num8 ((packT lim ts cyc dued minf minp start).drop 24) = minf ∧ num8 ((packT lim ts cyc dued minf minp start).drop 32) = minp ∧ num8 ((packT lim ts cyc dued minf minp start).drop 40) = start ∧
    nT (packT lim ts cyc dued minf minp start) = ts.length := by
  simp only [rightT, Bool.and_eq_true, betw_iff] at hr
  obtain ⟨⟨⟨⟨⟨⟨h0, h1⟩, _⟩, h2, h3⟩, h4⟩, h5⟩, h6⟩ := hr
  have e0 : packT lim ts cyc dued minf minp start = be8 lim ++ (be8 cyc ++ (be8 dued ++ (be8 minf ++ (be8 minp ++ (be8 start ++ (be8 ts.length ++ ts.flatMap be9)))))) := by simp [packT]
  have hd8 : ∀ (v : Int) (l : List Int), (be8 v ++ l).drop 8 = l := fun v l => by simpa using drop8 v l 0
  unfold nT
  rw [e0]
  rw [show (16 : Nat) = 8 + 8 from rfl, show (24 : Nat) = 8 + (8 + 8) from rfl, show (32 : Nat) = 8 + (8 + (8 + 8)) from rfl, show (40 : Nat) = 8 + (8 + (8 + (8 + 8))) from rfl, show (48 : Nat) = 8 + (8 + (8 + (8 + (8 + 8)))) from rfl]
  simp only [drop8, hd8]
  refine ⟨num8_be8 ?_ ?_ _, num8_be8 ?_ ?_ _, num8_be8 ?_ ?_ _, num8_be8 ?_ ?_ _, num8_be8 ?_ ?_ _, num8_be8 ?_ ?_ _, num8_be8 ?_ ?_ _⟩ <;> omega
theorem rates_in {ts : List (Int × Bool)} {lim cyc dued minf minp start : Int} (hr : rightT lim ts cyc dued minf minp start = true) {k : Nat} (hk : k < ts.length) : 0 ≤ (ts.getD k (0, false)).1 ∧ (ts.getD k (0, false)).1 ≤ 10000000 := by
  simp only [rightT, Bool.and_eq_true] at hr
  have h := hr.1.1.1.1.2
  unfold ratesT at h
  rw [List.all_eq_true] at h
  have := h ts[k] (List.getElem_mem hk)
  rw [betw_iff] at this
  simpa [List.getD, hk] using this
theorem packT_ts {ts : List (Int × Bool)} {lim cyc dued minf minp start : Int} (hr : rightT lim ts cyc dued minf minp start = true) : tsK (packT lim ts cyc dued minf minp start) ts.length = ts := by
  refine List.ext_getElem (tsK_length _ _) (fun k h1 h2 => ?_)
  have hk := rates_in hr h2
  have et := packT_tail lim cyc dued minf minp start h2
  have ef := packT_flag lim cyc dued minf minp start h2
  simp only [tsK, List.getElem_map, List.getElem_range, trK]
  rw [et, ef, num8_be8 (by omega) (by omega)]
  have eg : ts.getD k (0, false) = ts[k] := by simp [List.getD, h2]
  rw [eg]
  rcases ts[k] with ⟨x, _ | _⟩ <;> rfl
theorem scan_none {xs : List Int} {n : Nat} (h : ∀ j, j < n → badK xs j = 0) : ∀ (m k : Nat), k + m ≤ n → scanK xs k m = 0 := by
  intro m
  induction m with
  | zero => intro k _; rfl
  | succ m ih =>
    intro k hk
    rw [scanK_good (h k (by omega))]
    exact ih (k + 1) (by omega)
theorem ts_one {ts : List (Int × Bool)} {lim cyc dued minf minp start : Int} (hr : rightT lim ts cyc dued minf minp start = true) : 1 ≤ ts.length ∧ ts.length ≤ 8 := by
  simp only [rightT, Bool.and_eq_true, betw_iff] at hr
  omega
/-- What is packed is taken. -/
theorem takeE_packT {ts : List (Int × Bool)} {lim cyc dued minf minp start : Int} (hr : rightT lim ts cyc dued minf minp start = true) : takeE (packT lim ts cyc dued minf minp start) = 0 := by
  obtain ⟨n1, n2, n3, n4, n5, n6, n7⟩ := packT_nums hr
  have hl := packT_length lim ts cyc dued minf minp start
  have h8 := ts_one hr
  have hb : ∀ j, j < ts.length → badK (packT lim ts cyc dued minf minp start) j = 0 := fun j hj => by
    unfold badK
    rw [packT_flag lim cyc dued minf minp start hj, hl, if_neg (by omega)]
    split <;> simp
  have hs := scan_none hb ts.length 0 (by omega)
  have ho : okT (packT lim ts cyc dued minf minp start) = true := by
    unfold okT
    rw [n1, n2, n3, n4, n5, n6, n7, hl]
    simp only [Int.toNat_natCast]
    rw [packT_ts hr, hr]
    simp
  unfold takeE
  rw [if_neg (by omega), n7, if_neg (by omega)]
  simp only [Int.toNat_natCast]
  rw [hs, if_neg (by simp), if_pos ho]
theorem take_packT {ts : List (Int × Bool)} {lim cyc dued minf minp start : Int} (hr : rightT lim ts cyc dued minf minp start = true) :
    takeI (packT lim ts cyc dued minf minp start) 0 = lim ∧ takeI (packT lim ts cyc dued minf minp start) 8 = cyc ∧ takeI (packT lim ts cyc dued minf minp start) 16 = dued ∧ takeI (packT lim ts cyc dued minf minp start) 24 = minf ∧
    takeI (packT lim ts cyc dued minf minp start) 32 = minp ∧ takeI (packT lim ts cyc dued minf minp start) 40 = start ∧ takeTs (packT lim ts cyc dued minf minp start) = ts := by
  obtain ⟨n1, n2, n3, n4, n5, n6, n7⟩ := packT_nums hr
  have h0 := takeE_packT hr
  simp only [takeI, takeTs, h0, if_true, List.drop_zero]
  refine ⟨n1, n2, n3, n4, n5, n6, ?_⟩
  rw [n7, Int.toNat_natCast, packT_ts hr]
theorem scan_short {xs : List Int} {c n : Nat} (hc : c < 56 + 9 * n) (hx : ∀ j, j < n → ¬ 1 < xs.getD (64 + 9 * j) 0) (hl : xs.length = 56 + 9 * n) : ∀ (m k : Nat), k + m = n → 56 + 9 * k ≤ c → scanK (xs.take c) k m = 3 := by
  intro m
  induction m with
  | zero => intro k hk h; omega
  | succ m ih =>
    intro k hk h
    by_cases hs : c < 65 + 9 * k
    · have hb : badK (xs.take c) k = 3 := by
        unfold badK
        rw [if_pos (by rw [List.length_take]; omega)]
      rw [scanK_bad (by rw [hb]; decide), hb]
    · have hb : badK (xs.take c) k = 0 := by
        unfold badK
        rw [if_neg (by rw [List.length_take]; omega)]
        have : (xs.take c).getD (64 + 9 * k) 0 = xs.getD (64 + 9 * k) 0 := by
          simp only [List.getD]
          rw [List.getElem?_take, if_pos (by omega)]
        rw [this, if_neg (hx k (by omega))]
      rw [scanK_good hb]
      exact ih (k + 1) (by omega) (by omega)
/-- A beginning is too short. -/
theorem takeE_short {ts : List (Int × Bool)} {lim cyc dued minf minp start : Int} (hr : rightT lim ts cyc dued minf minp start = true) {c : Nat} (hc : c < (packT lim ts cyc dued minf minp start).length) :
    takeE ((packT lim ts cyc dued minf minp start).take c) = 3 := by
  obtain ⟨n1, n2, n3, n4, n5, n6, n7⟩ := packT_nums hr
  have hl := packT_length lim ts cyc dued minf minp start
  have h8 := ts_one hr
  have hx : ∀ j, j < ts.length → ¬ 1 < (packT lim ts cyc dued minf minp start).getD (64 + 9 * j) 0 := fun j hj => by
    rw [packT_flag lim cyc dued minf minp start hj]
    split <;> simp
  unfold takeE
  by_cases h : c < 56
  · rw [if_pos (by rw [List.length_take]; omega)]
  · have hn : nT ((packT lim ts cyc dued minf minp start).take c) = ts.length := by
      rw [← n7]
      unfold nT num8
      rw [List.drop_take, List.take_take, Nat.min_eq_left (by omega)]
    rw [if_neg (by rw [List.length_take]; omega), hn, if_neg (by omega)]
    simp only [Int.toNat_natCast]
    rw [scan_short (by omega) hx hl ts.length 0 (by omega) (by omega), if_pos (by decide)]
theorem scan_all {xs : List Int} : ∀ (m k : Nat), scanK xs k m = 0 → ∀ j, k ≤ j → j < k + m → badK xs j = 0 := by
  intro m
  induction m with
  | zero => intro k _ j h1 h2; omega
  | succ m ih =>
    intro k h j h1 h2
    by_cases hb : badK xs k = 0
    · rw [scanK_good hb] at h
      by_cases hj : j = k
      · rw [hj]; exact hb
      · exact ih (k + 1) h j (by omega) (by omega)
    · rw [scanK_bad hb] at h
      exact absurd h hb
theorem takeE_ok {xs : List Int} (h : takeE xs = 0) : 1 ≤ nT xs ∧ nT xs ≤ 8 ∧ (∀ j, j < (nT xs).toNat → badK xs j = 0) ∧ xs.length = 56 + 9 * (nT xs).toNat ∧
    rightT (num8 xs) (tsK xs (nT xs).toNat) (num8 (xs.drop 8)) (num8 (xs.drop 16)) (num8 (xs.drop 24)) (num8 (xs.drop 32)) (num8 (xs.drop 40)) = true := by
  unfold takeE at h
  split at h
  · exact absurd h (by decide)
  split at h
  · exact absurd h (by decide)
  split at h
  · rename_i h1; exact absurd h h1
  split at h
  · rename_i h1 h2 h3 h4
    unfold okT at h4
    rw [Bool.and_eq_true, decide_eq_true_eq] at h4
    have h3' : scanK xs 0 (nT xs).toNat = 0 := by simpa using h3
    exact ⟨by omega, by omega, fun j hj => scan_all _ _ h3' j (by omega) (by omega), h4.1, h4.2⟩
  · exact absurd h (by decide)
/-- What is taken is right, and packed again it is the same bytes. -/
theorem packR_take {xs : List Int} (hb : Byts xs) (h : takeE xs = 0) : packR (takeI xs 0) (takeTs xs) (takeI xs 8) (takeI xs 16) (takeI xs 24) (takeI xs 32) (takeI xs 40) = (xs, 0) := by
  obtain ⟨h1, h2, h3, h4, h5⟩ := takeE_ok h
  simp only [takeI, takeTs, h, if_true, List.drop_zero]
  unfold packR
  rw [if_pos h5]
  have e : packT (num8 xs) (tsK xs (nT xs).toNat) (num8 (xs.drop 8)) (num8 (xs.drop 16)) (num8 (xs.drop 24)) (num8 (xs.drop 32)) (num8 (xs.drop 40)) = xs := by
    have s0 := cut8 xs 0 (by omega) hb
    have s1 := cut8 xs 8 (by omega) hb
    have s2 := cut8 xs 16 (by omega) hb
    have s3 := cut8 xs 24 (by omega) hb
    have s4 := cut8 xs 32 (by omega) hb
    have s5 := cut8 xs 40 (by omega) hb
    have s6 := cut8 xs 48 (by omega) hb
    simp only [List.drop_zero, Nat.zero_add, Nat.reduceAdd] at s0 s1 s2 s3 s4 s5 s6
    have hn : (((tsK xs (nT xs).toNat).length : Nat) : Int) = num8 (xs.drop 48) := by
      rw [tsK_length, show num8 (xs.drop 48) = nT xs from rfl]
      omega
    have ht : ∀ k, k ≤ (nT xs).toNat → (tsK xs k).flatMap be9 = (xs.drop 56).take (9 * k) := by
      intro k
      induction k with
      | zero => intro _; rfl
      | succ k ih =>
        intro hk
        rw [tsK_succ, List.flatMap_append, ih (by omega), show 9 * (k + 1) = 9 * k + 9 by omega, List.take_add, List.drop_drop]
        congr 1
        have hbad := h3 k (by omega)
        have c8 := cut8 xs (56 + 9 * k) (by omega) hb
        have hlt : 64 + 9 * k < xs.length := by omega
        have hg := hb.getD hlt
        have hg1 : ¬ 1 < xs.getD (64 + 9 * k) 0 := by
          intro hx
          unfold badK at hbad
          rw [if_neg (by omega), if_pos hx] at hbad
          exact absurd hbad (by decide)
        rw [← c8, show 56 + 9 * k + 8 = 64 + 9 * k by omega, List.drop_eq_getElem_cons hlt]
        simp only [List.flatMap_cons, List.flatMap_nil, List.append_nil, trK, be9]
        have eg : xs.getD (64 + 9 * k) 0 = xs[64 + 9 * k] := by simp [List.getD, hlt]
        rw [eg] at hg hg1 ⊢
        have : (be8 (num8 (xs.drop (56 + 9 * k))) ++ xs[64 + 9 * k] :: xs.drop (64 + 9 * k + 1)).take 9 = be8 (num8 (xs.drop (56 + 9 * k))) ++ [xs[64 + 9 * k]] := by
          rw [List.take_append, List.take_of_length_le (by rw [be8_length]; omega), be8_length]
          rfl
        rw [this]
        congr 2
        by_cases hq : xs[64 + 9 * k] = 1
        · simp [hq]
        · have : xs[64 + 9 * k] = 0 := by omega
          simp [this]
    unfold packT
    simp only [List.flatMap_cons, List.flatMap_nil, List.append_nil, List.append_assoc]
    rw [hn, ht _ (Nat.le_refl _), List.take_of_length_le (by rw [List.length_drop]; omega), s6, s5, s4, s3, s2, s1, s0]
  rw [e]
end Go.Proofs.Ytdjfpbjlmojikaa
