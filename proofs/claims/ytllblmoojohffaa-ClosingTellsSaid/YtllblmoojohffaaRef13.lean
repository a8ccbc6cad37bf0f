/- lombardref13.Exact: the sum of all products, as the document says it. -/
import Derived.Test.YtllblmoojohffaaSmall
import Derived.Deep.RegionHeld3
import Derived.Deep.CutBlock
namespace Go.Proofs.Ytllblmoojohffaa
open Go.RowKit EvM

/-- Are the first k of both in their bounds? -/
def okK (bs rs : List Int) (k : Nat) : Prop := ∀ j, j < k → overB 1000000000000000 (bs.getD j 0) = false ∧ overB 10000000 (rs.getD j 0) = false
theorem any_of_getD {most : Int} {l : List Int} (h : ∀ j, j < l.length → overB most (l.getD j 0) = false) : l.any (overB most) = false := by
  rw [List.any_eq_false]
  intro x hx
  obtain ⟨j, hj, rfl⟩ := List.getElem_of_mem hx
  have := h j hj
  simpa [List.getD, hj] using this
theorem okE_all {bs rs : List Int} (hl : bs.length = rs.length) (hn : bs.length ≤ 40000) (h : okK bs rs bs.length) : okE bs rs = true :=
  okE_of hl hn (any_of_getD fun j hj => (h j hj).1) (any_of_getD fun j hj => (h j (by omega)).2)
theorem okE_bad {bs rs : List Int} {j : Nat} (hj : j < bs.length) (h : overB 1000000000000000 (bs.getD j 0) = true ∨ overB 10000000 (rs.getD j 0) = true) : okE bs rs = false := by
  cases ho : okE bs rs with
  | false => rfl
  | true =>
    obtain ⟨h1, h2, h3, h4⟩ := okE_parts ho
    have e1 : bs.getD j 0 = bs[j] := by simp [List.getD, hj]
    have e2 : rs.getD j 0 = rs[j]'(by omega) := by simp [List.getD, show j < rs.length by omega]
    rw [List.any_eq_false] at h3 h4
    rcases h with h | h
    · rw [e1] at h; exact absurd h (h3 _ (List.getElem_mem _))
    · rw [e2] at h; exact absurd h (h4 _ (List.getElem_mem _))
theorem okK_succ {bs rs : List Int} {k : Nat} {x y : Int} (h : okK bs rs k) (hx : bs.getD k 0 = x) (hy : rs.getD k 0 = y) (h1 : overB 1000000000000000 x = false) (h2 : overB 10000000 y = false) : okK bs rs (k + 1) := by
  intro j hj
  by_cases e : j = k
  · subst e; rw [hx, hy]; exact ⟨h1, h2⟩
  · exact h j (by omega)

set_option maxHeartbeats 3200000 in
set_option maxRecDepth 100000 in
theorem refExact13_any (v u : Value) (bs rs : List Int) (hi lo : Nat) (e : Int) (h : Hid (exactR bs rs = (hi, lo, e))) (w : World) (hv : Sl .i64 w v bs) (hu : Sl .i64 w u rs) :
    Calls Try.prog 22 #[v, u] w (RetB (.tuple #[.int .u64 hi, .int .u64 lo, .int .i64 e]) w) := by
  have HV := Lib.hid hv
  have HU := Lib.hid hu
  obtain ⟨ao, cap, rfl, h1, ⟨h2, _⟩, h3⟩ := hv
  clear h3
  obtain ⟨ao', cap', rfl, h1', ⟨h2', _⟩, h3⟩ := hu
  clear h3
  unfold maxLen at h2 h2'
  have HNO : Hid (okE bs rs = false → hi = 0 ∧ lo = 0 ∧ e = 1) := by
    intro ho
    have h := h.out
    unfold exactR at h
    rw [ho, if_neg (by simp)] at h
    simp only [Prod.mk.injEq] at h
    exact ⟨h.1.symm, h.2.1.symm, h.2.2.symm⟩
  have HYES : Hid (okE bs rs = true → sumE bs rs bs.length / 18446744073709551616 = hi ∧ sumE bs rs bs.length % 18446744073709551616 = lo ∧ e = 0) := by
    intro ho
    have h := h.out
    unfold exactR at h
    rw [ho, if_pos rfl] at h
    simp only [Prod.mk.injEq] at h
    exact ⟨h.1, h.2.1, h.2.2.symm⟩
  clear h
  by_cases hl : bs.length = rs.length
  · by_cases hn : bs.length ≤ 40000
    · have d1 : ((bs.length : Int) == (rs.length : Int)) = true := by simp [hl]
      have d2 : decide ((bs.length : Int) ≤ 40000) = true := by simp; omega
      have HL := Lib.hid hl
      have HN := Lib.hid hn
      clear hl hn
      go_enter Try.func22, Try.ntmps22
      go_wp2_with fail
      go_loopg [7, 8] bs.length (fun g s i wr => ∃ k : Nat, k + g = bs.length ∧ i = .int .i64 k ∧ ((s = .bool true ∧ Hid (okK bs rs k)) ∨ (s = .bool false ∧ Hid (okE bs rs = false))) ∧ w = wr)
      case atStart => exact ⟨0, by omega, rfl, .inl ⟨rfl, fun j hj => absurd hj (by omega)⟩, rfl⟩
      case round =>
        obtain ⟨k, hkg, rfl, hs, rfl⟩ := hrel
        rcases hs with ⟨rfl, HK⟩ | ⟨rfl, HK⟩
        · cases gk with
          | succ g =>
            have hlt : (k : Int) < (bs.length : Int) := by omega
            have hlt2 : (k : Int) < (rs.length : Int) := by have := HL.out; omega
            obtain ⟨b, o, x, rfl, hcx, HX⟩ := HV.out.get (i := k) (by omega)
            obtain ⟨b', o', y, rfl, hcy, HY⟩ := HU.out.get (i := k) (by have := HL.out; omega)
            have HBAD : Hid (overB 1000000000000000 x = true ∨ overB 10000000 y = true → okE bs rs = false) := fun h => okE_bad (j := k) (by omega) (by rw [HX.out, HY.out]; exact h)
            have HGOOD : Hid (overB 1000000000000000 x = false → overB 10000000 y = false → okK bs rs (k + 1)) := fun h1 h2 => okK_succ HK.out HX.out HY.out h1 h2
            by_cases x0 : 0 ≤ x
            · have e1 : decide (0 ≤ x) = true := decide_eq_true x0
              by_cases x1 : x ≤ 1000000000000000
              · have e2 : decide (x ≤ 1000000000000000) = true := decide_eq_true x1
                by_cases y0 : 0 ≤ y
                · have e3 : decide (0 ≤ y) = true := decide_eq_true y0
                  by_cases y1 : y ≤ 10000000
                  · have e4 : decide (y ≤ 10000000) = true := decide_eq_true y1
                    have HG2 : Hid (okK bs rs (k + 1)) := HGOOD.out (by simp [overB]; omega) (by simp [overB]; omega)
                    go_wp2_with fail
                    go_roundg g
                    case measure => omega
                    case rel => exact ⟨k + 1, by omega, by go_num, .inl ⟨rfl, HG2⟩, rfl⟩
                  · have e4 : decide (y ≤ 10000000) = false := decide_eq_false y1
                    have HG2 : Hid (okE bs rs = false) := HBAD.out (.inr (by simp [overB]; omega))
                    go_wp2_with fail
                    go_roundg g
                    case measure => omega
                    case rel => exact ⟨k + 1, by omega, by go_num, .inr ⟨rfl, HG2⟩, rfl⟩
                · have e3 : decide (0 ≤ y) = false := decide_eq_false y0
                  have HG2 : Hid (okE bs rs = false) := HBAD.out (.inr (by simp [overB]; omega))
                  go_wp2_with fail
                  go_roundg g
                  case measure => omega
                  case rel => exact ⟨k + 1, by omega, by go_num, .inr ⟨rfl, HG2⟩, rfl⟩
              · have e2 : decide (x ≤ 1000000000000000) = false := decide_eq_false x1
                have HG2 : Hid (okE bs rs = false) := HBAD.out (.inl (by simp [overB]; omega))
                go_wp2_with fail
                go_roundg g
                case measure => omega
                case rel => exact ⟨k + 1, by omega, by go_num, .inr ⟨rfl, HG2⟩, rfl⟩
            · have e1 : decide (0 ≤ x) = false := decide_eq_false x0
              have HG2 : Hid (okE bs rs = false) := HBAD.out (.inl (by simp [overB]; omega))
              go_wp2_with fail
              go_roundg g
              case measure => omega
              case rel => exact ⟨k + 1, by omega, by go_num, .inr ⟨rfl, HG2⟩, rfl⟩
          | zero =>
            have hlt : ¬ ((k : Int) < (bs.length : Int)) := by omega
            have hlk : k = bs.length := by omega
            have HOK : Hid (okE bs rs = true) := okE_all HL.out HN.out (by rw [← hlk]; exact HK.out)
            obtain ⟨hhi, hlo, rfl⟩ := HYES.out HOK.out
            obtain ⟨e1, e2, e3, e4⟩ := okE_parts HOK.out
            have HHI := Lib.hid hhi
            have HLO := Lib.hid hlo
            have HLE := Lib.hid (fun k => sumE_le e3 e4 k)
            have HB1 := Lib.hid (fun k => any_over e3 (by omega) k)
            have HB2 := Lib.hid (fun k => any_over e4 (by omega) k)
            clear hlk hhi hlo e1 e2 e3 e4 HNO HYES HK HOK
            obtain ⟨w0, hw0⟩ : ∃ w0 : World, w0 = w := ⟨_, rfl⟩
            go_wp2_with fail
            go_loopg [9, 10, 11] bs.length (fun g s t i wr => ∃ (k ph pl : Nat), k + g = bs.length ∧ i = .int .i64 k ∧ s = .int .u64 ph ∧ t = .int .u64 pl ∧ Hid (sumE bs rs k / 18446744073709551616 = ph ∧ sumE bs rs k % 18446744073709551616 = pl) ∧ Below w.heap.size w wr)
            case atStart => exact ⟨0, 0, 0, by omega, rfl, rfl, rfl, by show _ ∧ _; simp [sumE], Below.refl _ _⟩
            case round =>
              obtain ⟨k, ph, pl, hkg, rfl, rfl, rfl, HP, hbw⟩ := hrel
              cases gk with
              | zero =>
                have hlt : ¬ ((k : Int) < (bs.length : Int)) := by omega
                obtain rfl : k = bs.length := by omega
                have HP2 : Hid (ph = hi ∧ pl = lo) := by
                  have h := HP.out
                  rw [HHI.out, HLO.out] at h
                  exact ⟨h.1.symm, h.2.symm⟩
                obtain ⟨rfl, rfl⟩ := HP2.out
                have X := Lib.hid hbw
                clear hbw HP HP2
                go_wp2
                go_ret3
                exact ⟨rfl, X.out⟩
              | succ g =>
                have hlt : (k : Int) < (bs.length : Int) := by omega
                have hlt2 : (k : Int) < (rs.length : Int) := by have := HL.out; omega
                obtain ⟨b, o, x, rfl, hcx, hx⟩ := (HV.out.below hbw).get (i := k) (by omega)
                obtain ⟨b', o', y, rfl, hcy, hy⟩ := (HU.out.below hbw).get (i := k) (by have := HL.out; omega)
                have hx0 := HB1.out k
                have hy0 := HB2.out k
                rw [hx.out] at hx0
                rw [hy.out] at hy0
                obtain ⟨X, rfl⟩ := Int.eq_ofNat_of_zero_le hx0.1
                obtain ⟨Y, rfl⟩ := Int.eq_ofNat_of_zero_le hy0.1
                have wX : IntKind.u64.wrap (X : Int) = X := by rw [IntKind.wrap_u64]; omega
                have wY : IntKind.u64.wrap (Y : Int) = Y := by rw [IntKind.wrap_u64]; omega
                obtain ⟨h, hh⟩ : ∃ h, X * Y / 18446744073709551616 = h := ⟨_, rfl⟩
                obtain ⟨l, hlq⟩ : ∃ l, X * Y % 18446744073709551616 = l := ⟨_, rfl⟩
                have hn : sumE bs rs (k + 1) = sumE bs rs k + X * Y := by simp only [sumE, hx.out, hy.out, Int.toNat_natCast]
                have hle := HLE.out (k + 1)
                rw [hn] at hle
                obtain ⟨l2, hl2⟩ : ∃ l2, (pl + l) % 18446744073709551616 = l2 := ⟨_, rfl⟩
                obtain ⟨c, hc⟩ : ∃ c, (pl + l) / 18446744073709551616 = c := ⟨_, rfl⟩
                obtain ⟨h2, hh2⟩ : ∃ h2, (ph + h + c) % 18446744073709551616 = h2 := ⟨_, rfl⟩
                obtain ⟨g1, g2, g3, g4⟩ := sum_step (sumE bs rs k) (X * Y) ph pl h l c l2 h2 HP.out.1 HP.out.2 hh hlq hl2 hc hh2 (by have := HN.out; omega)
                have HG : Hid (sumE bs rs (k + 1) / 18446744073709551616 = h2 ∧ sumE bs rs (k + 1) % 18446744073709551616 = l2) := by rw [hn]; exact ⟨g1, g2⟩
                obtain ⟨m, hm⟩ : ∃ m : Nat, ph + h = m := ⟨_, rfl⟩
                have A1 : IntKind.u64.wrap ((pl : Int) + l) = (l2 : Int) := by rw [IntKind.wrap_u64]; omega
                have A2 : IntKind.u64.wrap ((ph : Int) + h) = (m : Int) := by rw [IntKind.wrap_u64]; omega
                have A3 : IntKind.u64.wrap ((m : Int) + 1) = ((m + 1 : Nat) : Int) ∨ c = 0 := by
                  by_cases h0 : c = 0
                  · exact .inr h0
                  · left; rw [IntKind.wrap_u64]; omega
                have hlp : pl < 18446744073709551616 := by have := HP.out.2; omega
                have hll : l < 18446744073709551616 := by omega
                have HC : Hid ((c = 0 ∧ m = h2 ∧ ¬ l2 < pl) ∨ (c = 1 ∧ m + 1 = h2 ∧ l2 < pl)) := by show _ ∨ _; omega
                have HM : Hid (∀ W, Calls Try.prog 46 #[.int .u64 X, .int .u64 Y] W (RetB (.tuple #[.int .u64 h, .int .u64 l]) W)) := fun W => refMul_is X Y h l (by omega) (by omega) hh hlq W
                have HBW := Lib.hid hbw
                have HA1 := Lib.hid A1
                have HA2 := Lib.hid A2
                have HA3 := Lib.hid A3
                have hcx2 := Lib.hid hcx
                have hcy2 := Lib.hid hcy
                clear hx0 hy0 hh hlq hn hle hl2 hc hh2 g1 g2 g3 g4 HP hm A1 A2 A3 hlp hll
                go_wp2_with fail
                go_region_held3 (fun w' => w'.cell? ⟨b, o + k, none⟩ = some (.int .i64 X) ∧ w'.cell? ⟨b', o' + k, none⟩ = some (.int .i64 Y)) (first | exact ⟨hcx, hcy⟩ | (exact ⟨(hb1.cell (p := ⟨b, o + k, none⟩) (cell_block_lt hcx)).trans hcx, (hb1.cell (p := ⟨b', o' + k, none⟩) (cell_block_lt hcy)).trans hcy⟩) | (simp [go_sem, hcx, hcy]))
                  ((go_at_call 46; refine (HM.out _).mono ?_; rintro _ w1 ⟨rfl, hb1⟩))
                have HB3 : Hid (Below w.heap.size w w1) := (by repeat (first | with_reducible exact Below.refl _ _ | (with_reducible refine bl_sc ?_ ?hge; case hge => (first | exact Nat.le_refl _ | omega)) | with_reducible refine bl_al ?_ _ | with_reducible refine bl_dr ?_ | with_reducible refine bl_dN ?_ _ | (refine bl_tr ?_ (by assumption)) | (refine bl_gr ?_ (by assumption) (by first | exact Nat.le_refl _ | omega)) | exact Below.refl _ _ | refine bl_al ?_ _ | refine bl_dr ?_ | refine bl_dN ?_ _))
                have A1 := HA1.out
                have A2 := HA2.out
                rcases HC.out with ⟨c0, c1, c2⟩ | ⟨c0, c1, c2⟩
                · have d3 : decide ((l2 : Int) < (pl : Int)) = false := by simp; omega
                  have d4 : ¬ (l2 : Int) < (pl : Int) := by omega
                  subst c1
                  go_wp2_with fail
                  go_roundg g
                  case measure => omega
                  case rel => exact ⟨k + 1, m, l2, by omega, by go_num, rfl, rfl, HG, HB3.out⟩
                · have d3 : decide ((l2 : Int) < (pl : Int)) = true := by simp; omega
                  have A3 : IntKind.u64.wrap ((m : Int) + 1) = ((m + 1 : Nat) : Int) := by
                    rcases HA3.out with h | h
                    · exact h
                    · omega
                  have d4 : (l2 : Int) < (pl : Int) := by omega
                  subst c1
                  have A3' : IntKind.u64.wrap ((m : Int) + 1) = (m : Int) + 1 := by rw [A3, Int.natCast_add]; rfl
                  clear A3
                  go_wp2_with fail
                  go_roundg g
                  case measure => omega
                  case rel => exact ⟨k + 1, m + 1, l2, by omega, by go_num, by go_num, rfl, HG, HB3.out⟩
        · obtain ⟨rfl, rfl, rfl⟩ := HNO.out HK.out
          clear HNO HYES
          go_wp2
          go_ret3
          exact ⟨rfl, Below.refl _ _⟩
    · have d1 : ((bs.length : Int) == (rs.length : Int)) = true := by simp [hl]
      have d2 : decide ((bs.length : Int) ≤ 40000) = false := by simp; omega
      have ho : okE bs rs = false := by unfold okE; rw [decide_eq_false hn]; simp
      obtain ⟨rfl, rfl, rfl⟩ := HNO.out ho
      clear HNO HYES ho hl
      go_enter Try.func22, Try.ntmps22
      go_wp2_with fail
      go_loopg [7, 8] 0 (fun _ s i wr => s = .bool false ∧ i = .int .i64 0 ∧ w = wr)
      case atStart => exact ⟨rfl, rfl, rfl⟩
      case round =>
        obtain ⟨rfl, rfl, rfl⟩ := hrel
        go_wp2
        go_ret3
        exact ⟨rfl, Below.refl _ _⟩
  · have d1 : ((bs.length : Int) == (rs.length : Int)) = false := by simp; omega
    have ho : okE bs rs = false := by unfold okE; rw [show (bs.length == rs.length) = false by simpa using hl]; simp
    obtain ⟨rfl, rfl, rfl⟩ := HNO.out ho
    clear HNO HYES ho
    go_enter Try.func22, Try.ntmps22
    go_wp2_with fail
    go_loopg [7, 8] 0 (fun _ s i wr => s = .bool false ∧ i = .int .i64 0 ∧ w = wr)
    case atStart => exact ⟨rfl, rfl, rfl⟩
    case round =>
      obtain ⟨rfl, rfl, rfl⟩ := hrel
      go_wp2
      go_ret3
      exact ⟨rfl, Below.refl _ _⟩
end Go.Proofs.Ytllblmoojohffaa
