/- InterestOne. -/
import Derived.Test.YtllblmoojohffaaTwo
import Derived.Test.YtllblmoojohffaaAver
namespace Go.Proofs.Ytllblmoojohffaa
open Go.RowKit EvM

theorem u64_rem3 (x : Int) (m : Nat) (hm : 0 < m) (hm2 : m ≤ 9223372036854775808) : ∃ r : Nat, (IntKind.u64.wrap x).tmod (m : Int) = (r : Int) ∧ wrap64 (r : Int) = (r : Int) ∧ r < m := by
  have h0 : 0 ≤ IntKind.u64.wrap x := by rw [IntKind.wrap_u64]; omega
  have hm' : (0 : Int) < (m : Int) := by omega
  have h1 := Int.emod_nonneg (IntKind.u64.wrap x) (show (m : Int) ≠ 0 by omega)
  have h2 := Int.emod_lt_of_pos (IntKind.u64.wrap x) hm'
  obtain ⟨r, hr⟩ := Int.eq_ofNat_of_zero_le h1
  refine ⟨r, by rw [Int.tmod_eq_emod_of_nonneg h0]; exact hr, ?_, by omega⟩
  unfold wrap64; omega
theorem rep_any {most x : Int} (n : Nat) (h : overB most x = false) : (List.replicate n x).any (overB most) = false := by
  rw [List.any_eq_false]
  intro y hy
  obtain rfl := (List.mem_replicate.1 hy).2
  simp [h]
theorem sumE_rep (B R D k : Nat) (h : k ≤ D) : sumE (List.replicate D (B : Int)) (List.replicate D (R : Int)) k = k * (B * R) := by
  induction k with
  | zero => simp [sumE]
  | succ k ih =>
    simp only [sumE]
    rw [ih (by omega), getD_rep D k _ (by omega), getD_rep D k _ (by omega), Int.toNat_natCast, Int.toNat_natCast, Nat.succ_mul]
theorem sumB_rep (B D k : Nat) (h : k ≤ D) : sumB (List.replicate D (B : Int)) k = k * B := by
  induction k with
  | zero => simp [sumB]
  | succ k ih =>
    simp only [sumB]
    rw [ih (by omega), getD_rep D k _ (by omega), Int.toNat_natCast, Nat.succ_mul]
theorem overB_nat {most n : Nat} (h : n ≤ most) : overB (most : Int) (n : Int) = false := by simp [overB]; omega
theorem inter_rep {B R D : Nat} (hB : B ≤ 1000000000000000) (hR : R ≤ 10000000) (hD : D ≤ 40000) : interR (List.replicate D (B : Int)) (List.replicate D (R : Int)) = ofR2 (D * (B * R)) := by
  have e : okE (List.replicate D (B : Int)) (List.replicate D (R : Int)) = true := by
    have h1 : (List.replicate D (B : Int)).any (overB 1000000000000000) = false := rep_any D (overB_nat (most := 1000000000000000) hB)
    have h2 : (List.replicate D (R : Int)).any (overB 10000000) = false := rep_any D (overB_nat (most := 10000000) hR)
    unfold okE
    rw [h1, h2]
    simp [hD]
  unfold interR
  rw [e, if_pos rfl, List.length_replicate, sumE_rep B R D D (Nat.le_refl _)]
theorem aver_rep {B D : Nat} (hB : B ≤ 1000000000000000) (hD : 1 ≤ D) (hD2 : D ≤ 40000) : averR (List.replicate D (B : Int)) = ((B : Int), 0) := by
  have e : okA (List.replicate D (B : Int)) = true := by
    have h1 : (List.replicate D (B : Int)).any (overB 1000000000000000) = false := rep_any D (overB_nat (most := 1000000000000000) hB)
    unfold okA
    rw [h1]
    simp [hD, hD2]
  unfold averR
  rw [e, if_pos rfl, List.length_replicate, sumB_rep B D D (Nat.le_refl _)]
  have hn : (((D * B / 18446744073709551616 : Nat) : Int) * 18446744073709551616 + ((D * B % 18446744073709551616 : Nat) : Int)).toNat = D * B := by omega
  have hle : D * B ≤ 40000 * 1000000000000000 := mul_le2 hD2 hB
  have h0 : ¬ ((D : Int) ≤ ((D * B / 18446744073709551616 : Nat) : Int)) := by
    have : D * B / 18446744073709551616 < D := by
      apply Nat.div_lt_of_lt_mul
      have : D * B < D * 18446744073709551616 := Nat.mul_lt_mul_of_pos_left (by omega) (by omega)
      rw [Nat.mul_comm 18446744073709551616 D]
      exact this
    omega
  unfold evQ
  rw [if_neg h0, hn, Int.toNat_natCast, Nat.mul_comm D B, even_mul B D (by omega), if_pos (by omega)]

set_option maxRecDepth 100000 in
set_option maxHeartbeats 1600000 in
theorem interestOne_any (balance rate days : Int) (w : World) :
    Calls Try.prog 9 #[.int .i64 balance, .int .i64 rate, .int .i64 days] w (RetB (.bool true) w) := by
  obtain ⟨B, kB, wB, hB⟩ := u64_rem3 balance 1000000000000000 (by omega) (by omega)
  obtain ⟨R, kR, wR, hR⟩ := u64_rem3 rate 10000 (by omega) (by omega)
  obtain ⟨d, kD, wD, hd⟩ := u64_rem3 days 300 (by omega) (by omega)
  obtain ⟨D, hD⟩ : ∃ D : Nat, 1 + (d : Int) = (D : Int) := ⟨1 + d, by omega⟩
  have hD1 : 1 ≤ D ∧ D ≤ 300 := by omega
  obtain ⟨M, hM⟩ : ∃ M : Nat, R * D = M := ⟨_, rfl⟩
  have hM1 : M ≤ 10000 * 300 := by rw [← hM]; exact mul_le2 (by omega) (by omega)
  have hM2 : (R : Int) * (D : Int) = (M : Int) := by rw [← hM, Int.natCast_mul]
  obtain ⟨x, e, hx⟩ : ∃ x e, ofR2 (D * (B * R)) = (x, e) := ⟨_, _, rfl⟩
  have HI1 : Hid (interR (List.replicate D (B : Int)) (List.replicate D (R : Int)) = (x, e)) := by
    show _ = _
    rw [inter_rep (by omega) (by omega) (by omega), hx]
  have HI2 : Hid (interR [(B : Int)] [(M : Int)] = (x, e)) := by
    show _ = _
    have := inter_rep (B := B) (R := M) (D := 1) (by omega) (by omega) (by omega)
    have e1 : 1 * (B * M) = D * (B * R) := by rw [← hM, Nat.one_mul, Nat.mul_comm R D, Nat.mul_left_comm]
    rw [e1, hx] at this
    exact this
  have HA : Hid (averR (List.replicate D (B : Int)) = ((B : Int), 0)) := aver_rep (by omega) hD1.1 (by omega)
  have HDD := Lib.hid hD
  have HM2 := Lib.hid hM2
  have HBB := Lib.hid (And.intro hB (And.intro hR hM1))
  have kB' : (IntKind.u64.wrap balance).tmod 1000000000000000 = (B : Int) := kB
  have kR' : (IntKind.u64.wrap rate).tmod 10000 = (R : Int) := kR
  have kD' : (IntKind.u64.wrap days).tmod 300 = (d : Int) := kD
  obtain ⟨i0, hi, hz0, hz1, hz2⟩ := info_parts info_two
  clear hx hM hM1 hM2 hD hB hR kB kR kD
  go_enter Try.func9, Try.ntmps9
  go_wp2_with fail
  rw [HDD.out, wB, wR]
  clear kB' kR' kD' wD hd HDD
  go_loopg [7, 8, 9] D (fun g s t i wr => ∃ k : Nat, k + g = D ∧ i = .int .i64 k ∧ Two w wr s t (List.replicate k (B : Int)) (List.replicate k (R : Int)))
  case atStart => exact ⟨0, by omega, rfl, World.ownsRow_nil _ _ _ _, World.ownsRow_nil _ _ _ _, .inl rfl, Below.refl _ _⟩
  case round =>
    obtain ⟨k, hkg, rfl, hT⟩ := hrel
    cases gk with
    | zero =>
      have hlt : ¬ ((k : Int) < (D : Int)) := by omega
      obtain rfl : k = D := by omega
      obtain ⟨hA, hC, _, hb⟩ := hT
      have hSB := Lib.hid (Sl.of_own (k := .i64) hA rfl)
      have hSR := Lib.hid (Sl.of_own (k := .i64) hC rfl)
      have HB0 := Lib.hid hb
      clear hA hC hb hi hz0 hz1 hz2
      go_wp2_with fail
      refine (interOf_any _ _ _ _ x e HI1 _ hSB.out hSR.out).mono ?_
      rintro _ w1 ⟨rfl, hb1⟩
      have HB1 := Lib.hid (bl_tr HB0.out hb1)
      have hSB1 := Lib.hid (hSB.out.below hb1)
      clear hb1
      go_wp2_with fail
      have wM : wrap64 (M : Int) = M := by have := HBB.out; unfold wrap64; omega
      rw [HM2.out, wM]
      refine (interOf_any _ _ _ _ x e HI2 _ ((Sl.lit _ _ [(B : Int)] 1 rfl _ rfl (by unfold maxLen; omega)).alloc _) (Sl.litAt _ _ [(M : Int)] 1 _ rfl _ rfl (by unfold maxLen; omega) (by simp))).mono ?_
      rintro _ w2 ⟨rfl, hb2⟩
      have hb2' := bl_tr (bl_al (bl_al (Below.refl _ _) _) _) hb2
      have HB2 := Lib.hid (bl_tr HB1.out hb2')
      have hSB2 := Lib.hid (hSB1.out.below hb2')
      clear hb2 hb2' wM
      have HX := Lib.hid hD1
      go_wp2_with fail
      refine (interAver_any _ _ _ 0 (by rw [List.length_replicate]; have := HX.out; omega) HA _ hSB2.out).mono ?_
      rintro _ w3 ⟨rfl, hb3⟩
      have HB3 := Lib.hid (bl_tr HB2.out hb3)
      clear hb3
      go_wp2_with fail
      refine (awake13_any _).mono ?_
      rintro _ w4 ⟨rfl, hb4⟩
      go_wp2
      go_ret
      exact ⟨rfl, bl_tr HB3.out hb4⟩
    | succ g =>
      have hlt : (k : Int) < (D : Int) := by omega
      obtain ⟨hA, hB, hap, hb⟩ := hT
      have hbs := hb.size
      rw [List.length_replicate] at hA hB
      go_wp2_with (first
        | (at_builtin; refine wpList_append_where _ rfl (.tmp 34) (.tmp 36) 22 rfl w.heap.size 2 i0 (.int .i64 0) 1 8 Try.underlying22 hi hz0 hz1 hz2 rfl (by decide) _ _ _ rfl (hA.alloc _) ⟨wr.heap.size, 0, none⟩ 1 1 [_] rfl rfl (cell_one_new _ _ _) (fun x hx => by simp at hx; subst hx; rfl) (by unfold maxLen; omega) (by omega) (by simp; omega) ?_; intro v1 w1 hown1 hg1 hbk1; have hB1 := (hB.alloc _).kept hg1 (apart_or hap); have hz1' := hg1.size; simp only [World.size_alloc] at hz1'; have hb1 := (hb.alloc hbs (.cells #[.int .i64 (B : Int)] 2)).grown hg1 (by rw [World.size_alloc]; omega) (fun k hk => (hA.lt k hk).1))
        | (at_builtin; refine wpList_append_where _ rfl (.tmp 38) (.tmp 40) 22 rfl w.heap.size 2 i0 (.int .i64 0) 1 8 Try.underlying22 hi hz0 hz1 hz2 rfl (by decide) _ _ _ rfl (hB1.alloc _) ⟨w1.heap.size, 0, none⟩ 1 1 [_] rfl rfl (cell_one_new _ _ _) (fun x hx => by simp at hx; subst hx; rfl) (by unfold maxLen; omega) (by omega) (by rw [World.size_alloc]; omega) ?_; intro v2 w2 hown2 hg2 hbk2))
      have hb2 : Below w.heap.size w w2 := (hb1.alloc (by omega) _).grown hg2 (by rw [World.size_alloc]; omega) (fun k hk => (hB1.lt k hk).1)
      have hap2 : v1.ownBlock = none ∨ v2.ownBlock = none ∨ v1.ownBlock ≠ v2.ownBlock := apart_two (s := wr.heap.size) hap hbk1 hbk2 (fun k hk => by have := (hA.lt k hk).2; omega) (fun k hk => by have := (hB.lt k hk).2; omega) (by rw [World.size_alloc]; omega) (by simp only [World.size_alloc]; omega)
      have hA2 := (hown1.alloc (.cells #[.int .i64 (R : Int)] 2)).kept hg2 (apart_one hap hbk1 (fun k hk => by have := (hB.lt k hk).2; rw [World.size_alloc]; omega))
      have HT : Hid (Two w w2 v1 v2 (List.replicate (k + 1) (B : Int)) (List.replicate (k + 1) (R : Int))) := by
        rw [List.replicate_succ', List.replicate_succ']
        exact Lib.hid ⟨by simpa using hA2, by simpa using hown2, hap2, hb2⟩
      clear hA2 hap2 hb2 hown1 hown2 hg1 hg2 hbk1 hbk2 hA hB hB1 hap hb hb1
      go_wp2_with fail
      go_roundg g
      case measure => omega
      case rel => exact ⟨k + 1, by omega, by go_num, HT.out⟩
end Go.Proofs.Ytllblmoojohffaa
