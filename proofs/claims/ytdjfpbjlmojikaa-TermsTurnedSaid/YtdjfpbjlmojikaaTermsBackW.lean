/- TermsBack: what is packed is taken; what is taken, packed again, is the same bytes; a beginning is too short. -/
import Derived.Test.YtdjfpbjlmojikaaTermsPackW
import Derived.Test.YtdjfpbjlmojikaaBackMath
namespace Go.Proofs.Ytdjfpbjlmojikaa
open Go.RowKit
attribute [local go_sem ↓] Go.wp_at_zero Go.wp_at_succ

theorem Byts.app {a b : List Int} (ha : Byts a) (hb : Byts b) : Byts (a ++ b) := fun x hx => by
  rcases List.mem_append.1 hx with h | h
  · exact ha x h
  · exact hb x h
theorem Byts.pack (lim : Int) (ts : List (Int × Bool)) (cyc dued minf minp start : Int) : Byts (packT lim ts cyc dued minf minp start) := by
  unfold packT
  refine Byts.app ?_ ?_
  · intro x hx
    rw [List.mem_flatMap] at hx
    obtain ⟨v, _, hx⟩ := hx
    exact Byts.be8 v x hx
  · intro x hx
    rw [List.mem_flatMap] at hx
    obtain ⟨⟨v, g⟩, _, hx⟩ := hx
    unfold be9 at hx
    rcases List.mem_append.1 hx with h | h
    · exact Byts.be8 v x h
    · cases g <;> simp at h <;> omega

set_option maxRecDepth 100000 in
set_option maxHeartbeats 1600000 in
theorem termsBack_no (v : Value) (ts : List (Int × Bool)) (lim cyc dued minf minp start : Int) (u : Value) (bs : List Int) (cut : Int) (hb : Hid (Byts bs)) (hlt : ts.length ≤ 40) (hlb : bs.length ≤ 500) (w : World) (hv : TrS w v ts) (hu : Sl .u8 w u bs) (hr : rightT lim ts cyc dued minf minp start = false) :
    Calls Try.prog 9 #[.agg #[.int .i64 lim, v, .int .i64 cyc, .int .i64 dued, .int .i64 minf, .int .i64 minp, .int .i64 start], u, .int .i64 cut] w (RetB (.bool true) w) := by
  have HV := Lib.hid hv
  have HU := Lib.hid hu
  obtain ⟨ao, cap, rfl, h1, ⟨h2, _⟩, h3⟩ := hv
  obtain ⟨bo, bcap, rfl, h1', ⟨h2', _⟩, h3'⟩ := hu
  clear h3 h3'
  unfold maxLen at h2 h2'
  have d1 : decide ((40 : Int) < (ts.length : Int)) = false := by simp; omega
  have d2 : decide ((500 : Int) < (bs.length : Int)) = false := by simp; omega
  have hw0 : Below w.heap.size w (w.alloc (.cells #[.int .i64 lim, .slice ao ts.length cap, .int .i64 cyc, .int .i64 dued, .int .i64 minf, .int .i64 minp, .int .i64 start] 26)) := bl_al (Below.refl _ _) _
  have hK0 : Blk (w.alloc (.cells #[.int .i64 lim, .slice ao ts.length cap, .int .i64 cyc, .int .i64 dued, .int .i64 minf, .int .i64 minp, .int .i64 start] 26)) w.heap.size 26 [.int .i64 lim, .slice ao ts.length cap, .int .i64 cyc, .int .i64 dued, .int .i64 minf, .int .i64 minp, .int .i64 start] := heap_alloc_new _ _
  have HR := Lib.hid (show packR lim ts cyc dued minf minp start = ([], 6) by simp [packR, hr])
  have H6 := Lib.hid (show (if rightT lim ts cyc dued minf minp start = true then (0 : Int) else 6) = 6 from by rw [hr]; rfl)
  clear hr
  go_enter Try.func9, Try.ntmps9
  go_wp2_with fail
  refine (termsPack_any _ ts lim cyc dued minf minp start _ (HV.out.below hw0)).mono ?_
  rintro e w1 ⟨u1, rfl, hs1, hb1⟩
  rw [HR.out] at hs1 ⊢
  have hwa : Below w.heap.size w w1 := bl_tr hw0 hb1
  go_wp2_with fail
  refine (awake6_any _).mono ?_
  rintro e w2 ⟨rfl, hb2⟩
  have hwb : Below w.heap.size w w2 := bl_tr hwa hb2
  have hK2 := hK0.below (bl_tr hb1 hb2)
  have t0 := hK2.cell 0
  have t1 := hK2.cell 1
  have t2 := hK2.cell 2
  have t3 := hK2.cell 3
  have t4 := hK2.cell 4
  have t5 := hK2.cell 5
  have t6 := hK2.cell 6
  simp only [List.getElem?_cons_zero, List.getElem?_cons_succ] at t0 t1 t2 t3 t4 t5 t6
  go_wp2_with fail
  refine (refRight_any _ ts lim cyc dued minf minp start 6 H6 _ (HV.out.below hwb)).mono ?_
  rintro e w3 ⟨rfl, hb3⟩
  have hwc : Below w.heap.size w w3 := bl_tr hwb hb3
  clear t0 t1 t2 t3 t4 t5 t6 hb1 hb2 hb3 hK0 hK2 hwa hwb hw0 hs1
  go_wp2_with fail
  refine (termsTake_any _ bs hb _ (HU.out.below hwc) (by omega)).mono ?_
  rintro e w8 ⟨u8, rfl, ht8, hb8⟩
  have hw8 := bl_tr hwc hb8
  have HT8 := Lib.hid ht8
  obtain ⟨ao8, n8, cap8, rfl⟩ := ht8.form
  clear ht8
  obtain ⟨x0, hx0⟩ : ∃ y, takeI bs 0 = y := ⟨_, rfl⟩
  obtain ⟨x1, hx1⟩ : ∃ y, takeI bs 8 = y := ⟨_, rfl⟩
  obtain ⟨x2, hx2⟩ : ∃ y, takeI bs 16 = y := ⟨_, rfl⟩
  obtain ⟨x3, hx3⟩ : ∃ y, takeI bs 24 = y := ⟨_, rfl⟩
  obtain ⟨x4, hx4⟩ : ∃ y, takeI bs 32 = y := ⟨_, rfl⟩
  obtain ⟨x5, hx5⟩ : ∃ y, takeI bs 40 = y := ⟨_, rfl⟩
  obtain ⟨e8, he8⟩ : ∃ y, takeE bs = y := ⟨_, rfl⟩
  obtain ⟨p8, q8, hp8⟩ : ∃ p q, packR x0 (takeTs bs) x1 x2 x3 x4 x5 = (p, q) := ⟨_, _, rfl⟩
  have HP8 := Lib.hid hp8
  have HB8 : Hid (e8 = 0 → p8 = bs ∧ q8 = 0) := fun h => by
    have := packR_take hb (he8.trans h)
    rw [hx0, hx1, hx2, hx3, hx4, hx5, hp8] at this
    exact ⟨congrArg Prod.fst this, congrArg Prod.snd this⟩
  rw [hx0, hx1, hx2, hx3, hx4, hx5, he8]
  clear hx0 hx1 hx2 hx3 hx4 hx5 he8 hp8
  go_wp2_with fail
  refine (termsPack_any _ (takeTs bs) x0 x1 x2 x3 x4 x5 _ (HT8.out.below (bl_al (Below.refl _ _) _))).mono ?_
  rintro e w9 ⟨u9, rfl, hs9, hb9⟩
  rw [HP8.out] at hs9 ⊢
  have hw9 : Below w.heap.size w w9 := bl_tr (bl_al hw8 _) hb9
  by_cases h0 : e8 = 0
  · obtain ⟨rfl, rfl⟩ := HB8.out h0
    subst h0
    go_wp2_with fail
    refine (bytes_true _ _ _ _ hs9 (HU.out.below hw9)).mono ?_
    rintro e w10 ⟨rfl, rfl⟩
    go_wp2_with fail
    go_ret
    exact ⟨rfl, hw9⟩
  · have h0' : (e8 == 0) = false := by simpa using h0
    cases hq : (q8 == 0) with
    | false =>
      go_wp2_with fail
      go_ret
      exact ⟨rfl, hw9⟩
    | true =>
      go_wp2_with fail
      go_ret
      exact ⟨rfl, hw9⟩

set_option maxRecDepth 100000 in
set_option maxHeartbeats 1600000 in
theorem termsBack_yes (v : Value) (ts : List (Int × Bool)) (lim cyc dued minf minp start : Int) (u : Value) (bs : List Int) (cut : Int) (hb : Hid (Byts bs)) (hlt : ts.length ≤ 40) (hlb : bs.length ≤ 500) (w : World) (hv : TrS w v ts) (hu : Sl .u8 w u bs) (hr : rightT lim ts cyc dued minf minp start = true) :
    Calls Try.prog 9 #[.agg #[.int .i64 lim, v, .int .i64 cyc, .int .i64 dued, .int .i64 minf, .int .i64 minp, .int .i64 start], u, .int .i64 cut] w (RetB (.bool true) w) := by
  have HV := Lib.hid hv
  have HU := Lib.hid hu
  obtain ⟨ao, cap, rfl, h1, ⟨h2, _⟩, h3⟩ := hv
  obtain ⟨bo, bcap, rfl, h1', ⟨h2', _⟩, h3'⟩ := hu
  clear h3 h3'
  unfold maxLen at h2 h2'
  have d1 : decide ((40 : Int) < (ts.length : Int)) = false := by simp; omega
  have d2 : decide ((500 : Int) < (bs.length : Int)) = false := by simp; omega
  have hw0 : Below w.heap.size w (w.alloc (.cells #[.int .i64 lim, .slice ao ts.length cap, .int .i64 cyc, .int .i64 dued, .int .i64 minf, .int .i64 minp, .int .i64 start] 26)) := bl_al (Below.refl _ _) _
  have hK0 : Blk (w.alloc (.cells #[.int .i64 lim, .slice ao ts.length cap, .int .i64 cyc, .int .i64 dued, .int .i64 minf, .int .i64 minp, .int .i64 start] 26)) w.heap.size 26 [.int .i64 lim, .slice ao ts.length cap, .int .i64 cyc, .int .i64 dued, .int .i64 minf, .int .i64 minp, .int .i64 start] := heap_alloc_new _ _
  obtain ⟨xs, hxs⟩ : ∃ xs, packT lim ts cyc dued minf minp start = xs := ⟨_, rfl⟩
  have hl := packT_length lim ts cyc dued minf minp start
  have h8 := ts_one hr
  rw [hxs] at hl
  have HR := Lib.hid (show packR lim ts cyc dued minf minp start = (xs, 0) by simp [packR, hr, hxs])
  have H0 := Lib.hid (show (if rightT lim ts cyc dued minf minp start = true then (0 : Int) else 6) = 0 from by rw [hr]; rfl)
  have hby : Byts xs := by rw [← hxs]; exact Byts.pack _ _ _ _ _ _ _
  have HBY := Lib.hid hby
  have he := takeE_packT hr
  have hi := take_packT hr
  rw [hxs] at he hi
  have HE := Lib.hid he
  have HI := Lib.hid hi
  have HSH : Hid (∀ c, c < xs.length → takeE (xs.take c) = 3) := fun c hc => by
    rw [← hxs] at hc ⊢
    exact takeE_short hr hc
  obtain ⟨L, hL⟩ : ∃ L, xs.length = L := ⟨_, rfl⟩
  rw [hL] at hl
  have hge : 56 ≤ L := by omega
  have hle : L ≤ 128 := by omega
  have HSH' : Hid (∀ c, c < L → takeE (xs.take c) = 3) := fun c hc => HSH.out c (by omega)
  have HL := Lib.hid hL
  clear hr hxs hby he hi hl hL HSH
  have hm1 : IntKind.u64.wrap (L : Int) = L := by rw [u64_wrap]; omega
  have hu0 : 0 ≤ IntKind.u64.wrap cut := by rw [u64_wrap]; omega
  obtain ⟨c, hc0⟩ : ∃ c : Nat, (IntKind.u64.wrap cut).tmod (L : Int) = c := ⟨((IntKind.u64.wrap cut).tmod (L : Int)).toNat, by rw [Int.tmod_eq_emod_of_nonneg hu0]; exact (Int.toNat_of_nonneg (Int.emod_nonneg _ (by omega))).symm⟩
  have hcl : c < L := by
    have := Int.emod_lt_of_pos (IntKind.u64.wrap cut) (show (0 : Int) < L by omega)
    rw [← Int.tmod_eq_emod_of_nonneg hu0, hc0] at this
    omega
  have hm2 : IntKind.u64.wrap (c : Int) = c := by rw [u64_wrap]; omega
  have hm3 : IntKind.i64.wrap (c : Int) = c := by rw [i64_wrap]; omega
  have hc : wrap64 ((IntKind.u64.wrap cut).tmod (L : Int)) = c := by
    rw [hc0]; unfold wrap64; omega
  clear hu0
  have hx0 : ((L : Int) == 0) = false := by rw [beq_eq_false_iff_ne]; omega
  have hx1 : ¬ L = 0 := by omega
  go_enter Try.func9, Try.ntmps9
  go_wp2_with fail
  refine (termsPack_any _ ts lim cyc dued minf minp start _ (HV.out.below hw0)).mono ?_
  rintro e w1 ⟨u1, rfl, hs1, hb1⟩
  rw [HR.out] at hs1 ⊢
  have hs1' := hs1
  obtain ⟨ao1, cap1, rfl, i1, ⟨i2, _⟩, _⟩ := hs1
  unfold maxLen at i2
  rw [HL.out] at hs1' i1 ⊢
  have HS1 := Lib.hid hs1'
  clear hs1'
  have hcc : c ≤ cap1 := by omega
  have hwa : Below w.heap.size w w1 := bl_tr hw0 hb1
  go_wp2_with fail
  refine (awake6_any _).mono ?_
  rintro e w2 ⟨rfl, hb2⟩
  have hwb : Below w.heap.size w w2 := bl_tr hwa hb2
  have hK2 := hK0.below (bl_tr hb1 hb2)
  have t0 := hK2.cell 0
  have t1 := hK2.cell 1
  have t2 := hK2.cell 2
  have t3 := hK2.cell 3
  have t4 := hK2.cell 4
  have t5 := hK2.cell 5
  have t6 := hK2.cell 6
  simp only [List.getElem?_cons_zero, List.getElem?_cons_succ] at t0 t1 t2 t3 t4 t5 t6
  go_wp2_with fail
  refine (refRight_any _ ts lim cyc dued minf minp start 0 H0 _ (HV.out.below hwb)).mono ?_
  rintro e w3 ⟨rfl, hb3⟩
  have hwc : Below w.heap.size w w3 := bl_tr hwb hb3
  have hK3 := hK2.below hb3
  clear t0 t1 t2 t3 t4 t5 t6
  have HS3 := Lib.hid (HS1.out.below (bl_tr hb2 hb3))
  clear hb1 hb2 hb3 hK0 hK2 hwa hwb hw0
  go_wp2_with fail
  refine (termsTake_any _ xs HBY _ HS3.out (by rw [HL.out]; omega)).mono ?_
  rintro e w4 ⟨u4, rfl, ht4, hb4⟩
  obtain ⟨q0, q1, q2, q3, q4, q5, q6⟩ := HI.out
  rw [q0, q1, q2, q3, q4, q5, HE.out]
  rw [q6] at ht4
  clear q0 q1 q2 q3 q4 q5 q6
  have HT4 := Lib.hid ht4
  obtain ⟨aox, nx, capx, rfl⟩ := ht4.form
  clear ht4
  have hwd : Below w.heap.size w w4 := bl_tr hwc hb4
  have hK4 := hK3.below (bl_al hb4 (.cells #[.int .i64 lim, .slice aox nx capx, .int .i64 cyc, .int .i64 dued, .int .i64 minf, .int .i64 minp, .int .i64 start] 26))
  have t0 := hK4.cell 0
  have t1 := hK4.cell 1
  have t2 := hK4.cell 2
  have t3 := hK4.cell 3
  have t4 := hK4.cell 4
  have t5 := hK4.cell 5
  have t6 := hK4.cell 6
  simp only [List.getElem?_cons_zero, List.getElem?_cons_succ] at t0 t1 t2 t3 t4 t5 t6
  go_wp2_with fail
  refine (sameTerms_true _ _ ts lim cyc dued minf minp start _ (HT4.out.below (bl_al (Below.refl _ _) _)) (HV.out.below (bl_al hwd _))).mono ?_
  rintro e w5 ⟨rfl, hb5⟩
  have hwe : Below w.heap.size w w5 := bl_tr (bl_al hwd _) hb5
  have HS5 := Lib.hid (HS3.out.below (bl_tr (bl_al hb4 _) hb5))
  clear t0 t1 t2 t3 t4 t5 t6 hK3 hK4 hb4 hwc hwd HS3 hb5
  go_wp2_with fail
  refine (termsTake_any _ (xs.take c) (Lib.hid (HBY.out.take c)) _ (HS5.out.lo (by omega)) (by rw [List.length_take]; omega)).mono ?_
  rintro e w6 ⟨u6, rfl, ht6, hb6⟩
  rw [HSH'.out c hcl]
  obtain ⟨aoy, ny, capy, rfl⟩ := ht6.form
  clear ht6
  have hwf : Below w.heap.size w (w6.alloc (.cells #[.int .i64 (takeI (xs.take c) 0), .slice aoy ny capy, .int .i64 (takeI (xs.take c) 8), .int .i64 (takeI (xs.take c) 16), .int .i64 (takeI (xs.take c) 24), .int .i64 (takeI (xs.take c) 32), .int .i64 (takeI (xs.take c) 40)] 26)) := bl_al (bl_tr hwe hb6) _
  go_wp2_with fail
  refine (termsTake_any _ bs hb _ (HU.out.below hwf) (by omega)).mono ?_
  rintro e w8 ⟨u8, rfl, ht8, hb8⟩
  have hw8 := bl_tr hwf hb8
  have HT8 := Lib.hid ht8
  obtain ⟨ao8, n8, cap8, rfl⟩ := ht8.form
  clear ht8
  obtain ⟨x0, hx0⟩ : ∃ y, takeI bs 0 = y := ⟨_, rfl⟩
  obtain ⟨x1, hx1⟩ : ∃ y, takeI bs 8 = y := ⟨_, rfl⟩
  obtain ⟨x2, hx2⟩ : ∃ y, takeI bs 16 = y := ⟨_, rfl⟩
  obtain ⟨x3, hx3⟩ : ∃ y, takeI bs 24 = y := ⟨_, rfl⟩
  obtain ⟨x4, hx4⟩ : ∃ y, takeI bs 32 = y := ⟨_, rfl⟩
  obtain ⟨x5, hx5⟩ : ∃ y, takeI bs 40 = y := ⟨_, rfl⟩
  obtain ⟨e8, he8⟩ : ∃ y, takeE bs = y := ⟨_, rfl⟩
  obtain ⟨p8, q8, hp8⟩ : ∃ p q, packR x0 (takeTs bs) x1 x2 x3 x4 x5 = (p, q) := ⟨_, _, rfl⟩
  have HP8 := Lib.hid hp8
  have HB8 : Hid (e8 = 0 → p8 = bs ∧ q8 = 0) := fun h => by
    have := packR_take hb (he8.trans h)
    rw [hx0, hx1, hx2, hx3, hx4, hx5, hp8] at this
    exact ⟨congrArg Prod.fst this, congrArg Prod.snd this⟩
  rw [hx0, hx1, hx2, hx3, hx4, hx5, he8]
  clear hx0 hx1 hx2 hx3 hx4 hx5 he8 hp8
  go_wp2_with fail
  refine (termsPack_any _ (takeTs bs) x0 x1 x2 x3 x4 x5 _ (HT8.out.below (bl_al (Below.refl _ _) _))).mono ?_
  rintro e w9 ⟨u9, rfl, hs9, hb9⟩
  rw [HP8.out] at hs9 ⊢
  have hw9 : Below w.heap.size w w9 := bl_tr (bl_al hw8 _) hb9
  by_cases h0 : e8 = 0
  · obtain ⟨rfl, rfl⟩ := HB8.out h0
    subst h0
    go_wp2_with fail
    refine (bytes_true _ _ _ _ hs9 (HU.out.below hw9)).mono ?_
    rintro e w10 ⟨rfl, rfl⟩
    go_wp2_with fail
    go_ret
    exact ⟨rfl, hw9⟩
  · have h0' : (e8 == 0) = false := by simpa using h0
    cases hq : (q8 == 0) with
    | false =>
      go_wp2_with fail
      go_ret
      exact ⟨rfl, hw9⟩
    | true =>
      go_wp2_with fail
      go_ret
      exact ⟨rfl, hw9⟩

theorem termsBack_any (v : Value) (ts : List (Int × Bool)) (lim cyc dued minf minp start : Int) (u : Value) (bs : List Int) (cut : Int) (hb : Byts bs) (w : World) (hv : TrS w v ts) (hu : Sl .u8 w u bs) :
    Calls Try.prog 9 #[.agg #[.int .i64 lim, v, .int .i64 cyc, .int .i64 dued, .int .i64 minf, .int .i64 minp, .int .i64 start], u, .int .i64 cut] w (RetB (.bool true) w) := by
  by_cases hlt : ts.length ≤ 40
  · by_cases hlb : bs.length ≤ 500
    · cases hr : rightT lim ts cyc dued minf minp start with
      | false => exact termsBack_no v ts lim cyc dued minf minp start u bs cut (Lib.hid hb) hlt hlb w hv hu hr
      | true => exact termsBack_yes v ts lim cyc dued minf minp start u bs cut (Lib.hid hb) hlt hlb w hv hu hr
    · obtain ⟨ao, cap, rfl, h1, ⟨h2, _⟩, h3⟩ := hv
      obtain ⟨bo, bcap, rfl, h1', ⟨h2', _⟩, h3'⟩ := hu
      clear h3 h3'
      unfold maxLen at h2 h2'
      have d1 : decide ((40 : Int) < (ts.length : Int)) = false := by simp; omega
      have d2 : decide ((500 : Int) < (bs.length : Int)) = true := by simp; omega
      go_enter Try.func9, Try.ntmps9
      go_wp2_with fail
      refine (awake6_any _).mono ?_
      rintro e w1 ⟨rfl, hb1⟩
      go_wp2_with fail
      go_ret
      exact ⟨rfl, bl_tr (bl_al (Below.refl _ _) _) hb1⟩
  · obtain ⟨ao, cap, rfl, h1, ⟨h2, _⟩, h3⟩ := hv
    clear h3
    unfold maxLen at h2
    have d1 : decide ((40 : Int) < (ts.length : Int)) = true := by simp; omega
    go_enter Try.func9, Try.ntmps9
    go_wp2_with fail
    refine (awake6_any _).mono ?_
    rintro e w1 ⟨rfl, hb1⟩
    go_wp2_with fail
    go_ret
    exact ⟨rfl, bl_tr (bl_al (Below.refl _ _) _) hb1⟩
end Go.Proofs.Ytdjfpbjlmojikaa
