/- lombardref13.Of, Average. -/
import Derived.Test.YtllblmoojohffaaRef13
namespace Go.Proofs.Ytllblmoojohffaa
open Go.RowKit EvM

set_option maxHeartbeats 800000 in
set_option maxRecDepth 100000 in
theorem refOf13_any (v u : Value) (bs rs : List Int) (x e : Int) (h : Hid (interR bs rs = (x, e))) (w : World) (hv : Sl .i64 w v bs) (hu : Sl .i64 w u rs) :
    Calls Try.prog 23 #[v, u] w (RetB (.tuple #[.int .i64 x, .int .i64 e]) w) := by
  have h := h.out
  unfold interR at h
  cases ho : okE bs rs with
  | false =>
    rw [ho, if_neg (by simp)] at h
    simp only [Prod.mk.injEq] at h
    obtain ⟨rfl, rfl⟩ := h
    have HE : Hid (exactR bs rs = (0, 0, 1)) := by show _ = _; unfold exactR; rw [ho, if_neg (by simp)]
    have HV := Lib.hid hv
    have HU := Lib.hid hu
    clear hv hu ho
    go_enter Try.func23, Try.ntmps23
    go_wp2_with fail
    refine (refExact13_any v u bs rs 0 0 1 HE _ HV.out HU.out).mono ?_
    rintro _ w1 ⟨rfl, hb1⟩
    go_wp2
    go_ret2
    exact ⟨rfl, hb1⟩
  | true =>
    rw [ho, if_pos rfl] at h
    obtain ⟨hi, hhi⟩ : ∃ hi, sumE bs rs bs.length / 18446744073709551616 = hi := ⟨_, rfl⟩
    obtain ⟨lo, hlo⟩ : ∃ lo, sumE bs rs bs.length % 18446744073709551616 = lo := ⟨_, rfl⟩
    obtain ⟨q, b, hq⟩ : ∃ q b, evQ (hi : Int) (lo : Int) 1000000000 = (q, b) := ⟨_, _, rfl⟩
    rw [ofR2_of hhi hlo hq] at h
    have hq0 := evQ_nn hq
    have HE : Hid (exactR bs rs = (hi, lo, 0)) := by show _ = _; unfold exactR; rw [ho, if_pos rfl, hhi, hlo]
    have HLO : Hid (lo < 18446744073709551616) := by show _ < _; omega
    have HQ := Lib.hid hq
    have HV := Lib.hid hv
    have HU := Lib.hid hu
    have HEV : Hid (∀ w, Calls Try.prog 47 #[.int .u64 hi, .int .u64 lo, .int .u64 1000000000] w (RetB (.tuple #[.int .u64 q, .bool b]) w)) := fun w => refEven_any hi lo 1000000000 q b HLO.out (by omega) HQ w
    clear hv hu ho hhi hlo hq
    cases b with
    | false =>
      rw [if_neg (by simp)] at h
      simp only [Prod.mk.injEq] at h
      obtain ⟨rfl, rfl⟩ := h
      go_enter Try.func23, Try.ntmps23
      go_wp2_with fail
      refine (refExact13_any v u bs rs hi lo 0 HE _ HV.out HU.out).mono ?_
      rintro _ w1 ⟨rfl, hb1⟩
      go_wp2_with fail
      refine (HEV.out _).mono ?_
      rintro _ w2 ⟨rfl, hb2⟩
      go_wp2
      go_ret2
      exact ⟨rfl, bl_tr hb1 hb2⟩
    | true =>
      by_cases hqm : q ≤ 1000000000000000
      · rw [if_pos ⟨rfl, hqm⟩] at h
        simp only [Prod.mk.injEq] at h
        obtain ⟨rfl, rfl⟩ := h
        have d1 : decide (1000000000000000 < q) = false := by simp; omega
        have w1 : wrap64 q = q := IntWalk.wrap64_in _ ⟨by omega, by omega⟩
        have w2 : IntKind.i64.wrap q = q := IntWalk.i64_in _ ⟨by omega, by omega⟩
        go_enter Try.func23, Try.ntmps23
        go_wp2_with fail
        refine (refExact13_any v u bs rs hi lo 0 HE _ HV.out HU.out).mono ?_
        rintro _ w1 ⟨rfl, hb1⟩
        go_wp2_with fail
        refine (HEV.out _).mono ?_
        rintro _ w2 ⟨rfl, hb2⟩
        go_wp2
        go_ret2
        exact ⟨rfl, bl_tr hb1 hb2⟩
      · rw [if_neg (by intro h; exact hqm h.2)] at h
        simp only [Prod.mk.injEq] at h
        obtain ⟨rfl, rfl⟩ := h
        have d1 : decide (1000000000000000 < q) = true := by simp; omega
        go_enter Try.func23, Try.ntmps23
        go_wp2_with fail
        refine (refExact13_any v u bs rs hi lo 0 HE _ HV.out HU.out).mono ?_
        rintro _ w1 ⟨rfl, hb1⟩
        go_wp2_with fail
        refine (HEV.out _).mono ?_
        rintro _ w2 ⟨rfl, hb2⟩
        go_wp2
        go_ret2
        exact ⟨rfl, bl_tr hb1 hb2⟩


def okB (bs : List Int) (k : Nat) : Prop := ∀ j, j < k → overB 1000000000000000 (bs.getD j 0) = false
theorem okB_any {bs : List Int} {k : Nat} (hk : k < bs.length) (h : overB 1000000000000000 (bs.getD k 0) = true) : bs.any (overB 1000000000000000) = true := by
  rw [List.any_eq_true]
  exact ⟨bs[k], List.getElem_mem hk, by simpa [List.getD, hk] using h⟩
theorem sumB_leK {bs : List Int} {k : Nat} (h : okB bs k) (j : Nat) (hj : j ≤ k) : sumB bs j ≤ j * 1000000000000000 := by
  induction j with
  | zero => exact Nat.le_refl _
  | succ j ih =>
    have a := overB_no (h j (by omega))
    have := ih (by omega)
    simp only [sumB]
    omega

set_option maxHeartbeats 3200000 in
set_option maxRecDepth 100000 in
theorem refAver13_any (v : Value) (bs : List Int) (x e : Int) (hlen : bs.length ≤ 1000) (h : Hid (averR bs = (x, e))) (w : World) (hv : Sl .i64 w v bs) :
    Calls Try.prog 25 #[v] w (RetB (.tuple #[.int .i64 x, .int .i64 e]) w) := by
  have HV := Lib.hid hv
  obtain ⟨ao, cap, rfl, h1, ⟨h2, _⟩, h3⟩ := hv
  clear h3
  unfold maxLen at h2
  have HNO : Hid (okA bs = false → x = 0 ∧ e = 1) := by
    intro ho
    have h := h.out
    unfold averR at h
    rw [ho, if_neg (by simp)] at h
    simp only [Prod.mk.injEq] at h
    exact ⟨h.1.symm, h.2.symm⟩
  by_cases hn : 1 ≤ bs.length
  · have d1 : decide ((1 : Int) ≤ (bs.length : Int)) = true := by simp; omega
    have d2 : decide ((bs.length : Int) ≤ 40000) = true := by simp; omega
    have d1n : decide (1 ≤ bs.length) = true := decide_eq_true hn
    have HL := Lib.hid (And.intro hn hlen)
    have H := Lib.hid h
    clear h hn hlen d1n
    go_enter Try.func25, Try.ntmps25
    go_wp2_with fail
    go_loopg [4, 5, 6, 7] bs.length (fun g s hh ll i wr => ∃ k : Nat, k + g = bs.length ∧ i = .int .i64 k ∧ ((s = .bool true ∧ hh = .int .u64 0 ∧ (∃ p : Nat, ll = .int .u64 p ∧ Hid (sumB bs k = p)) ∧ Hid (okB bs k)) ∨ (s = .bool false ∧ (∃ p q : Int, hh = .int .u64 p ∧ ll = .int .u64 q) ∧ Hid (okA bs = false))) ∧ w = wr)
    case atStart => exact ⟨0, by omega, rfl, .inl ⟨rfl, rfl, ⟨0, rfl, rfl⟩, fun j hj => absurd hj (by omega)⟩, rfl⟩
    case round =>
      obtain ⟨k, hkg, rfl, hs, rfl⟩ := hrel
      rcases hs with ⟨rfl, rfl, ⟨p, rfl, HP⟩, HK⟩ | ⟨rfl, ⟨p, q, rfl, rfl⟩, HK⟩
      · cases gk with
        | succ g =>
          have hlt : (k : Int) < (bs.length : Int) := by omega
          obtain ⟨b, o, y, rfl, hcy, HY⟩ := HV.out.get (i := k) (by omega)
          have HBAD : Hid (overB 1000000000000000 y = true → okA bs = false) := fun h => by
            have := okB_any (bs := bs) (k := k) (by omega) (by rw [HY.out]; exact h)
            unfold okA
            rw [this]
            simp
          by_cases y0 : 0 ≤ y
          · have e1 : decide (0 ≤ y) = true := decide_eq_true y0
            by_cases y1 : y ≤ 1000000000000000
            · have e2 : decide (y ≤ 1000000000000000) = true := decide_eq_true y1
              have hKK : okB bs (k + 1) := by
                intro j hj
                by_cases e : j = k
                · subst e; rw [HY.out]; simp [overB]; omega
                · exact HK.out j (by omega)
              have hle := sumB_leK hKK (k + 1) (Nat.le_refl _)
              have hk1000 : k < 1000 := by have := HL.out; omega
              obtain ⟨Y, rfl⟩ := Int.eq_ofNat_of_zero_le y0
              have hs : sumB bs (k + 1) = p + Y := by simp only [sumB, HY.out, HP.out, Int.toNat_natCast]
              have HS := Lib.hid hs
              have HK2 := Lib.hid hKK
              have hpy : p + Y < 18446744073709551616 := by rw [← hs]; omega
              have wY : IntKind.u64.wrap (Y : Int) = Y := by rw [IntKind.wrap_u64]; omega
              have wS : IntKind.u64.wrap ((p : Int) + Y) = (p : Int) + Y := by rw [IntKind.wrap_u64]; omega
              have hge : ¬ (p : Int) + Y < (p : Int) := by omega
              clear hKK hle hs HK HBAD
              go_wp2_with fail
              go_roundg g
              case measure => omega
              case rel => exact ⟨k + 1, by omega, by go_num, .inl ⟨rfl, rfl, ⟨p + Y, by go_num, HS⟩, HK2⟩, rfl⟩
            · have e2 : decide (y ≤ 1000000000000000) = false := decide_eq_false y1
              have HG2 : Hid (okA bs = false) := HBAD.out (by simp [overB]; omega)
              go_wp2_with fail
              all_goals
                go_roundg g
                case measure => omega
                case rel => exact ⟨k + 1, by omega, by go_num, .inr ⟨rfl, ⟨_, _, rfl, rfl⟩, HG2⟩, rfl⟩
          · have e1 : decide (0 ≤ y) = false := decide_eq_false y0
            have HG2 : Hid (okA bs = false) := HBAD.out (by simp [overB]; omega)
            go_wp2_with fail
            all_goals
              go_roundg g
              case measure => omega
              case rel => exact ⟨k + 1, by omega, by go_num, .inr ⟨rfl, ⟨_, _, rfl, rfl⟩, HG2⟩, rfl⟩
        | zero =>
          have hlt : ¬ ((k : Int) < (bs.length : Int)) := by omega
          have hlk : k = bs.length := by omega
          have hkk : okB bs bs.length := by rw [← hlk]; exact HK.out
          have hle := sumB_leK hkk bs.length (Nat.le_refl _)
          have hS : sumB bs bs.length = p := by rw [← hlk]; exact HP.out
          have hbd := HL.out
          have hany : bs.any (overB 1000000000000000) = false := any_of_getD hkk
          have hok : okA bs = true := by
            unfold okA
            rw [hany, decide_eq_true hbd.1, decide_eq_true (show bs.length ≤ 40000 by omega)]
            rfl
          have h := H.out.out
          unfold averR at h
          rw [hok, if_pos rfl, hS, Nat.div_eq_of_lt (show p < 18446744073709551616 by omega), Nat.mod_eq_of_lt (show p < 18446744073709551616 by omega)] at h
          obtain ⟨q, b, hq⟩ : ∃ q b, evQ ((0 : Nat) : Int) (p : Int) (bs.length : Int) = (q, b) := ⟨_, _, rfl⟩
          have hq0 := evQ_nn hq
          have hq1 := evQ_le (n := p) (Nat.div_eq_of_lt (show p < 18446744073709551616 by omega)) (Nat.mod_eq_of_lt (show p < 18446744073709551616 by omega)) hq
          have hq2 := aver_le (n := p) (d := bs.length) (by omega) (by omega)
          rw [hq] at h
          simp only [Prod.mk.injEq] at h
          obtain ⟨rfl, rfl⟩ := h
          have hqb : q ≤ 1000000000000001 := by omega
          have wq2 : IntKind.u64.wrap (bs.length : Int) = bs.length := by rw [IntKind.wrap_u64]; omega
          have HEV := Lib.hid (fun W => refEven_any 0 p bs.length q b (by omega) (by omega) (Lib.hid hq) W)
          clear hlk hkk hle hS hbd hany hok hq1 hq2 hq HK HP H HNO
          go_wp2_with fail
          refine (HEV.out _).mono ?_
          rintro _ w1 ⟨rfl, hb1⟩
          go_wp2
          go_ret2
          exact ⟨rfl, hb1⟩
      · obtain ⟨rfl, rfl⟩ := HNO.out HK.out
        clear HNO
        go_wp2
        go_ret2
        exact ⟨rfl, Below.refl _ _⟩
  · have d1 : decide ((1 : Int) ≤ (bs.length : Int)) = false := by simp; omega
    have ho : okA bs = false := by unfold okA; rw [decide_eq_false hn]; rfl
    obtain ⟨rfl, rfl⟩ := HNO.out ho
    clear HNO ho
    go_enter Try.func25, Try.ntmps25
    go_wp2_with fail
    go_loopg [4, 5, 6, 7] 0 (fun _ s hh ll i wr => s = .bool false ∧ hh = .int .u64 0 ∧ ll = .int .u64 0 ∧ i = .int .i64 0 ∧ w = wr)
    case atStart => exact ⟨rfl, rfl, rfl, rfl, rfl⟩
    case round =>
      obtain ⟨rfl, rfl, rfl, rfl, rfl⟩ := hrel
      go_wp2
      go_ret2
      exact ⟨rfl, Below.refl _ _⟩
end Go.Proofs.Ytllblmoojohffaa
