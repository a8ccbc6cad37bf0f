/- fall.into and Into: how an amount goes into balances in an order, or why not. -/
import Derived.Test.YtbiiejolemcifaaFall
namespace Go.Proofs.Ytbiiejolemcifaa
open Go.RowKit

/-- What into answers: what goes where, and what is left. -/
def IntoRes (xs : List Int) (left : Int) (w : World) (e : Ending) (w' : World) : Prop := ∃ u, e = .returned (.tuple #[u, .int .i64 left]) ∧ w'.ownsRow w.heap.size 2 1 u xs.length (xs.map (Value.int .i64)) ∧ Below w.heap.size w w'

set_option maxHeartbeats 400000 in
theorem into_any (v u : Value) (bal ks : List Int) (amount : Int) (w : World) (hv : Sl .i64 w v bal) (hu : Sl .i64 w u ks) (hn : bal.length ≤ 1000) (hk : ks.length ≤ 1000)
    (ha : 0 ≤ amount ∧ amount ≤ 1000000000000000) (hb : Hid (∀ x ∈ bal, 0 ≤ x ∧ x ≤ 1000000000000000)) (ho : Hid (∀ i, i < ks.length → 1 ≤ ks.getD i 0 ∧ ks.getD i 0 ≤ bal.length)) :
    Calls Try.prog 67 #[v, u, .int .i64 amount] w (IntoRes (filled bal ks amount).1 (filled bal ks amount).2 w) := by
  have HV := Lib.hid hv
  have HU := Lib.hid hu
  obtain ⟨ao, cap, rfl, h1, ⟨h2, _⟩, h3⟩ := hv
  obtain ⟨ao', cap', rfl, h1', ⟨h2', _⟩, h3'⟩ := hu
  clear h3 h3'
  unfold maxLen at h2 h2'
  have HF : Hid (∀ i, 0 ≤ (fill bal ks amount i).2 ∧ (fill bal ks amount i).2 ≤ amount) := fun i => fill_left ha.1 (fun x hx => (hb.out x hx).1) i
  obtain ⟨i0, hi, hz0, hz1, hz2⟩ := info_parts info_fall
  go_enter Try.func67, Try.ntmps67
  go_wp2
  refine wp_scope_back 0 (fun a' w' => ∃ (i : Nat) (cur : List Value) (A : Int) (L : List Int) (u10 u11 u12 u13 u14 u15 u16 u17 u18 u19 u20 u21 u22 u23 u24 u25 u26 u27 u28 u29 u30 u31 u32 u33 u34 u35 u36 u37 u38 u39 u40 u41 : Value), a' = { tmps := #[Value.slice ao bal.length cap, Value.slice ao' ks.length cap', .int .i64 A, undef, undef, undef, Value.slice none 0 0, .int .i64 0, .slice (some ⟨w.heap.size, 0, none⟩) bal.length bal.length, .int .i64 i, u10, u11, u12, u13, u14, u15, u16, u17, u18, u19, u20, u21, u22, u23, u24, u25, u26, u27, u28, u29, u30, u31, u32, u33, u34, u35, u36, u37, u38, u39, u40, u41], defers := [] } ∧
      i ≤ ks.length ∧ Hid (fill bal ks amount i = (L, A)) ∧ Blk w' w.heap.size 2 cur ∧ Hid (cur = L.map (Value.int .i64)) ∧ Below w.heap.size w w')
    (fun a' _ => ks.length - (intOf (a'.tmps.getD 9 undef)).toNat) rfl ?pass ?first
  case first =>
    intro J' _ hrest
    have HR := Lib.hid hrest
    clear hrest
    go_wp2_with (at_make; refine wpList_make_full _ rfl _ _ 23 rfl w.heap.size 2 i0 (.int .i64 0) 1 Try.underlying23 hi hz0 hz1 _ _ _ _ bal.length rfl rfl rfl rfl (by rw [hz2]; omega) (by unfold maxLen; omega) (Nat.le_refl _) ?_; intro w1 hown1 hgrow1)
    obtain ⟨cur, hB, _, _, hcl, hct, _⟩ := blk_of_own hown1
    have hb1 := grown_below1 hgrow1
    go_step3
    go_step
    go_step
    refine HR.out _ _ ⟨0, cur, amount, List.replicate bal.length 0, _, _, _, _, _, _, _, _, _, _, _, _, _, _, _, _, _, _, _, _, _, _, _, _, _, _, _, _, _, _, _, _, rfl, Nat.zero_le _, rfl, hB, ?_, hb1⟩
    show _ = _
    have : cur = List.replicate bal.length (.int .i64 0) := by
      rw [← List.take_of_length_le (show cur.length ≤ bal.length * 1 by omega), hct]
      rw [Nat.mul_one]
      exact toList_madeCells_one _ _
    rw [this]
    simp
  case pass =>
    intro a1 w1 hJ J' hJ'
    obtain ⟨i, cur, A, L, hJ⟩ := hJ
    obtain ⟨u10, hJ⟩ := hJ
    obtain ⟨u11, hJ⟩ := hJ
    obtain ⟨u12, hJ⟩ := hJ
    obtain ⟨u13, hJ⟩ := hJ
    obtain ⟨u14, hJ⟩ := hJ
    obtain ⟨u15, hJ⟩ := hJ
    obtain ⟨u16, hJ⟩ := hJ
    obtain ⟨u17, hJ⟩ := hJ
    obtain ⟨u18, hJ⟩ := hJ
    obtain ⟨u19, hJ⟩ := hJ
    obtain ⟨u20, hJ⟩ := hJ
    obtain ⟨u21, hJ⟩ := hJ
    obtain ⟨u22, hJ⟩ := hJ
    obtain ⟨u23, hJ⟩ := hJ
    obtain ⟨u24, hJ⟩ := hJ
    obtain ⟨u25, hJ⟩ := hJ
    obtain ⟨u26, hJ⟩ := hJ
    obtain ⟨u27, hJ⟩ := hJ
    obtain ⟨u28, hJ⟩ := hJ
    obtain ⟨u29, hJ⟩ := hJ
    obtain ⟨u30, hJ⟩ := hJ
    obtain ⟨u31, hJ⟩ := hJ
    obtain ⟨u32, hJ⟩ := hJ
    obtain ⟨u33, hJ⟩ := hJ
    obtain ⟨u34, hJ⟩ := hJ
    obtain ⟨u35, hJ⟩ := hJ
    obtain ⟨u36, hJ⟩ := hJ
    obtain ⟨u37, hJ⟩ := hJ
    obtain ⟨u38, hJ⟩ := hJ
    obtain ⟨u39, hJ⟩ := hJ
    obtain ⟨u40, hJ⟩ := hJ
    obtain ⟨u41, hJ⟩ := hJ
    obtain ⟨ha', hin, hfill, hB, HC, hbw⟩ := hJ
    subst ha'
    have hfi := HF.out i
    rw [hfill.out] at hfi
    simp only at hfi
    have hlen : Hid (cur.length = bal.length) := by
      show _ = _
      rw [HC.out]
      have := fill_length bal ks amount i
      rw [hfill.out] at this
      simpa using this
    by_cases hlt : i < ks.length
    · obtain ⟨b', o', y, rfl, hcy, hy⟩ := (HU.out.below hbw).get (i := i) hlt
      have hyr := ho.out i hlt
      rw [hy.out] at hyr
      obtain ⟨m, rfl⟩ : ∃ m : Nat, y = (m : Int) + 1 := ⟨(y - 1).toNat, by omega⟩
      have hmn : m < bal.length := by omega
      obtain ⟨b, o, x, rfl, hcx, hx⟩ := (HV.out.below hbw).get (i := m) hmn
      have hx0 : 0 ≤ x ∧ x ≤ 1000000000000000 := by
        rw [← hx.out]
        have := hb.out bal[m] (List.getElem_mem hmn)
        simpa [List.getD, hmn] using this
      obtain ⟨v0, hc0⟩ := hB.some (j := m) (by rw [hlen.out]; exact hmn)
      have hf0 := hB.frozen m
      have HST : Hid (fill bal ks amount (i + 1) = (L.set m (min A x), A - min A x)) := by
        have e1 : ((m : Int) + 1 - 1).toNat = m := by omega
        show _ = _
        simp only [fill, hy.out, e1, hx.out, hfill.out]
      have X := Lib.hid (And.intro hB hbw)
      clear hB hbw
      by_cases hmin : A ≤ x
      · have HM := Lib.hid (show min A x = A by omega)
        go_wp2
        go_step3
        refine ⟨rfl, hJ' _ _ ⟨i + 1, cur.set m (.int .i64 A), 0, L.set m A, _, _, _, _, _, _, _, _, _, _, _, _, _, _, _, _, _, _, _, _, _, _, _, _, _, _, _, _, _, _, _, _, rfl, by omega, by show _ = _; rw [HST.out, HM.out, Int.sub_self], X.out.1.set m _, by show _ = _; rw [HC.out]; simp [List.map_set], X.out.2.setCell (Nat.le_refl _) _⟩ ?_⟩
        simp [intOf]
        omega
      · have HM := Lib.hid (show min A x = x by omega)
        go_wp2
        go_step3
        refine ⟨rfl, hJ' _ _ ⟨i + 1, cur.set m (.int .i64 x), A - x, L.set m x, _, _, _, _, _, _, _, _, _, _, _, _, _, _, _, _, _, _, _, _, _, _, _, _, _, _, _, _, _, _, _, _, rfl, by omega, by show _ = _; rw [HST.out, HM.out], X.out.1.set m _, by show _ = _; rw [HC.out]; simp [List.map_set], X.out.2.setCell (Nat.le_refl _) _⟩ ?_⟩
        simp [intOf]
        omega
    · obtain rfl : i = ks.length := by omega
      have hfin : filled bal ks amount = (L, A) := hfill.out
      rw [hfin]
      have X := Lib.hid (And.intro hB hbw)
      clear hB hbw hfin
      go_wp2
      simp only [Exit.jump]
      go_ret2
      have hLl : L.length = bal.length := by
        have := fill_length bal ks amount ks.length
        rwa [hfill.out] at this
      refine ⟨_, rfl, ?_, X.out.2⟩
      rw [hLl]
      refine own_of_blk X.out.1 (Nat.le_refl _) (Nat.le_refl _) (by unfold maxLen; omega) (by rw [hlen.out, Nat.mul_one]) ?_
      rw [List.take_of_length_le (by rw [hlen.out, Nat.mul_one]; exact Nat.le_refl _), HC.out]

/-- What Into answers. -/
def intoR (bal ks : List Int) (amount : Int) : List Int × Int × Int :=
  if (ordB ks bal.length && !bal.any badMoney && !badMoney amount) = true then ((filled bal ks amount).1, (filled bal ks amount).2, 0) else ([], 0, 1)
def Into3 (r : List Int × Int × Int) (w : World) (e : Ending) (w' : World) : Prop := ∃ u, e = .returned (.tuple #[u, .int .i64 r.2.1, .int .i64 r.2.2]) ∧ w'.ownsRow w.heap.size 2 1 u r.1.length (r.1.map (Value.int .i64)) ∧ Below w.heap.size w w'
theorem sl_nil (k : IntKind) (w : World) : Sl k w (.slice none 0 0) [] := ⟨none, 0, rfl, Nat.le_refl _, ⟨by simp [maxLen], fun _ => rfl⟩, fun h => absurd rfl h⟩
theorem bad_no {xs : List Int} (h : xs.any badMoney = false) : ∀ x ∈ xs, 0 ≤ x ∧ x ≤ 1000000000000000 := by
  intro x hx
  have := List.any_eq_false.1 h x hx
  simp [badMoney] at this
  omega
theorem badMoney_no {x : Int} (h : badMoney x = false) : 0 ≤ x ∧ x ≤ 1000000000000000 := by
  simp [badMoney] at h
  omega

set_option maxHeartbeats 400000 in
theorem fallInto_any (v u : Value) (bal ks : List Int) (amount : Int) (w : World) (hv : Sl .i64 w v bal) (hu : Sl .i64 w u ks) (hn : bal.length ≤ 1000) (hk : ks.length ≤ 1000) :
    Calls Try.prog 47 #[v, u, .int .i64 amount] w (Into3 (intoR bal ks amount) w) := by
  have HV := Lib.hid hv
  have HU := Lib.hid hu
  obtain ⟨ao, cap, rfl, h1, ⟨h2, _⟩, h3⟩ := hv
  clear h3
  unfold maxLen at h2
  have hA : ∀ W : World, Calls Try.prog 66 #[.slice (some ⟨W.heap.size, 0, none⟩) 1 1] (W.alloc (.cells #[.int .i64 amount] 2)) (Ret (.bool (!badMoney amount)) (W.alloc (.cells #[.int .i64 amount] 2))) := fun W =>
    fallMay_any _ [amount] _ (Lib.hid (by simp)) _ (Sl.lit _ _ [amount] 1 rfl _ rfl (by decide))
  have HA := Lib.hid hA
  clear hA
  cases ho : ordB ks bal.length with
  | false =>
    have hr : intoR bal ks amount = ([], 0, 1) := by simp [intoR, ho]
    rw [hr]
    clear hr
    have HO := Lib.hid ho
    clear ho
    go_enter Try.func47, Try.ntmps47
    go_wp2_with fail
    refine (ordered_any _ ks bal.length false HO.out _ HU.out hn hk).mono ?_
    rintro e w1 ⟨rfl, hb1⟩
    go_wp2_with fail
    go_ret3
    exact ⟨_, rfl, World.ownsRow_nil _ _ _ _, hb1⟩
  | true =>
    cases hb : bal.any badMoney with
    | true =>
      have hr : intoR bal ks amount = ([], 0, 1) := by simp only [intoR, hb]; simp
      rw [hr]
      clear hr
      have HO := Lib.hid ho
      have HB := Lib.hid hb
      clear ho hb
      go_enter Try.func47, Try.ntmps47
      go_wp2_with fail
      refine (ordered_any _ ks bal.length true HO.out _ HU.out hn hk).mono ?_
      rintro e w1 ⟨rfl, hb1⟩
      go_wp2_with fail
      refine (fallMay_any _ bal false HB.out _ (HV.out.below hb1)).mono ?_
      rintro e w2 ⟨rfl, rfl⟩
      go_wp2_with fail
      go_ret3
      exact ⟨_, rfl, World.ownsRow_nil _ _ _ _, hb1⟩
    | false =>
      cases hm : badMoney amount with
      | true =>
        have hr : intoR bal ks amount = ([], 0, 1) := by simp only [intoR, hm]; simp
        rw [hr]
        clear hr
        have HO := Lib.hid ho
        have HB := Lib.hid hb
        have HM := Lib.hid hm
        clear ho hb hm
        go_enter Try.func47, Try.ntmps47
        go_wp2_with fail
        refine (ordered_any _ ks bal.length true HO.out _ HU.out hn hk).mono ?_
        rintro e w1 ⟨rfl, hb1⟩
        go_wp2_with fail
        refine (fallMay_any _ bal true HB.out _ (HV.out.below hb1)).mono ?_
        rintro e w2 ⟨rfl, rfl⟩
        go_wp2_with fail
        have h := HA.out w1
        rw [HM.out] at h
        refine h.mono ?_
        clear h
        rintro e w2 ⟨rfl, rfl⟩
        go_wp2_with fail
        go_ret3
        exact ⟨_, rfl, World.ownsRow_nil _ _ _ _, bl_al hb1 _⟩
      | false =>
        have hr : intoR bal ks amount = ((filled bal ks amount).1, (filled bal ks amount).2, 0) := by simp only [intoR, ho, hb, hm]; simp
        rw [hr]
        clear hr
        have HO := Lib.hid ho
        have HB := Lib.hid hb
        have HM := Lib.hid hm
        clear ho hb hm
        go_enter Try.func47, Try.ntmps47
        go_wp2_with fail
        refine (ordered_any _ ks bal.length true HO.out _ HU.out hn hk).mono ?_
        rintro e w1 ⟨rfl, hb1⟩
        go_wp2_with fail
        refine (fallMay_any _ bal true HB.out _ (HV.out.below hb1)).mono ?_
        rintro e w2 ⟨rfl, rfl⟩
        go_wp2_with fail
        have h := HA.out w1
        rw [HM.out] at h
        refine h.mono ?_
        clear h
        rintro e w2 ⟨rfl, rfl⟩
        go_wp2_with fail
        refine (into_any _ _ bal ks amount _ ((HV.out.below hb1).alloc _) ((HU.out.below hb1).alloc _) hn hk (badMoney_no HM.out) (Lib.hid (bad_no HB.out)) (Lib.hid fun i hi => by have := ordT_at HO.out hi; exact ⟨this.1, this.2.1⟩)).mono ?_
        rintro e w3 ⟨u3, rfl, hs3, hb3⟩
        go_wp2_with fail
        go_ret3
        exact ⟨_, rfl, own_base hs3 (by have := hb1.size; rw [World.size_alloc]; omega), (by repeat (first | with_reducible exact Below.refl _ _ | (with_reducible refine bl_sc ?_ ?hge; case hge => (first | exact Nat.le_refl _ | omega)) | with_reducible refine bl_al ?_ _ | with_reducible refine bl_dr ?_ | with_reducible refine bl_dN ?_ _ | (refine bl_tr ?_ (by assumption)) | (refine bl_gr ?_ (by assumption) (by first | exact Nat.le_refl _ | omega)) | exact Below.refl _ _ | refine bl_al ?_ _ | refine bl_dr ?_ | refine bl_dN ?_ _))⟩
end Go.Proofs.Ytbiiejolemcifaa
