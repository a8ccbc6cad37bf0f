/- lombardref04.total, Of, Balanced over whole postings whose sums may be. -/
import Derived.Test.YtbiiejolemcifaaRefSide
import Derived.Test.YtbiiejolemcifaaPostM
namespace Go.Proofs.Ytbiiejolemcifaa
open Go.RowKit FlM

/-- Debits, credits of those that are meant. -/
def sD (f : Int → Bool) : List (Int × Nat × Nat) → Int
  | [] => 0
  | p :: l => (if f p.1 then (p.2.1 : Int) else 0) + sD f l
def sC (f : Int → Bool) : List (Int × Nat × Nat) → Int
  | [] => 0
  | p :: l => (if f p.1 then (p.2.2 : Int) else 0) + sC f l
theorem sD_nn (f : Int → Bool) (l : List (Int × Nat × Nat)) : 0 ≤ sD f l ∧ 0 ≤ sC f l := by
  induction l with
  | nil => simp [sD, sC]
  | cons p l ih =>
    simp only [sD, sC]
    constructor <;> (split <;> omega)
theorem sD_le (f : Int → Bool) (l : List (Int × Nat × Nat)) : sD f l ≤ sD (fun _ => true) l ∧ sC f l ≤ sC (fun _ => true) l := by
  induction l with
  | nil => simp [sD, sC]
  | cons p l ih =>
    simp only [sD, sC, if_true]
    constructor <;> (split <;> omega)
theorem sD_step {f : Int → Bool} {qs : List (Int × Nat × Nat)} {k : Nat} {a : Int} {px py : Nat} (h : qs.getD k (0, 0, 0) = (a, px, py)) (hk : k < qs.length) :
    sD f (qs.drop k) = (if f a then (px : Int) else 0) + sD f (qs.drop (k + 1)) ∧ sC f (qs.drop k) = (if f a then (py : Int) else 0) + sC f (qs.drop (k + 1)) := by
  rw [List.drop_eq_getElem_cons hk]
  have e : qs[k] = (a, px, py) := by
    rw [← h]
    simp [List.getD, hk]
  rw [e]
  exact ⟨rfl, rfl⟩
theorem partsR_N {x y : Nat} (hx : x ≤ 1000000000000000) (hy : y ≤ 1000000000000000) : partsR (FlM.N x) (FlM.N y) = ((x : Int), (y : Int), 0) := by
  obtain ⟨p, hp⟩ : ∃ p, partsR (FlM.N x) (FlM.N y) = p := ⟨_, rfl⟩
  obtain ⟨p1, p2, p3⟩ := p
  obtain ⟨h1, h2, h3⟩ := partsR_yes hp (part_N _ hx) (part_N _ hy)
  rw [hp, ← h1, ← h2, ← h3]

set_option maxHeartbeats 1600000 in
set_option maxRecDepth 100000 in
theorem refTotal_any (v : Value) (qs : List (Int × Nat × Nat)) (acc : Int) (all : Bool) (D C : Int) (hok : Hid (okP qs)) (hlen : qs.length ≤ 1000000) (hT : Hid (sD (fun _ => true) qs ≤ 1000000000000000 ∧ sC (fun _ => true) qs ≤ 1000000000000000))
    (hD : Hid (sD (fun a => all || a == acc) qs = D ∧ sC (fun a => all || a == acc) qs = C)) (w : World) (hv : PoS w v (bitsP qs)) :
    Calls Try.prog 57 #[v, .int .i64 acc, .bool all] w (Ret (.tuple #[.int .i64 D, .int .i64 C, .int .i64 0]) w) := by
  have HV := Lib.hid hv
  obtain ⟨ao, cap, rfl, h1, ⟨h2, _⟩, h3⟩ := hv
  clear h3
  unfold maxLen at h2
  have hl : (bitsP qs).length = qs.length := by simp [bitsP]
  obtain ⟨n, hn⟩ : ∃ n, (bitsP qs).length = n := ⟨_, rfl⟩
  rw [hn] at h1 hl HV ⊢
  have HN := Lib.hid hn
  have HL := Lib.hid hl
  have hnl : n ≤ 1000000 := by omega
  clear hn hl hlen
  go_enter Try.func57, Try.ntmps57
  go_wp2_with fail
  go_loopg [9] n (fun g i wr => ∃ k : Nat, k + g = n ∧ i = .int .i64 k ∧ w = wr)
  case atStart => exact ⟨0, by omega, rfl, rfl⟩
  case round =>
    obtain ⟨k, hkg, rfl, rfl⟩ := hrel
    cases gk with
    | zero =>
      have hlt : ¬ ((k : Int) < (n : Int)) := by omega
      go_wp2_with fail
      go_loopg [13, 14, 15, 16, 17] n (fun g a b x y i wr => ∃ (k : Nat) (A B X Y : Int), k + g = n ∧ i = .int .i64 k ∧ a = .int .i64 A ∧ b = .int .i64 B ∧ x = .int .i64 X ∧ y = .int .i64 Y ∧ (0 ≤ A ∧ A ≤ 1000000000000000) ∧ (0 ≤ B ∧ B ≤ 1000000000000000) ∧ (0 ≤ X ∧ X ≤ A) ∧ (0 ≤ Y ∧ Y ≤ B) ∧ Hid (A + sD (fun _ => true) (qs.drop k) = sD (fun _ => true) qs ∧ B + sC (fun _ => true) (qs.drop k) = sC (fun _ => true) qs) ∧ Hid (X + sD (fun a => all || a == acc) (qs.drop k) = D ∧ Y + sC (fun a => all || a == acc) (qs.drop k) = C) ∧ w = wr)
      case atStart => exact ⟨0, 0, 0, 0, 0, by omega, rfl, rfl, rfl, rfl, rfl, by omega, by omega, by omega, by omega, ⟨by rw [List.drop_zero, Int.zero_add], by rw [List.drop_zero, Int.zero_add]⟩, ⟨by rw [List.drop_zero, Int.zero_add]; exact hD.out.1, by rw [List.drop_zero, Int.zero_add]; exact hD.out.2⟩, rfl⟩
      case round =>
        obtain ⟨k, A, B, X, Y, hkg, rfl, rfl, rfl, rfl, rfl, hA, hB, hX, hY, HT, HX, rfl⟩ := hrel
        cases gk with
        | zero =>
          have hlt : ¬ ((k : Int) < (n : Int)) := by omega
          have HE : Hid (X = D ∧ Y = C) := by
            have := HX.out
            rw [List.drop_of_length_le (by have := HL.out; omega)] at this
            simpa [Hid, sD, sC] using this
          clear HT HX hA hB hX hY
          go_wp2_with fail
          go_ret3
          rw [HE.out.1, HE.out.2]
          exact ⟨rfl, rfl⟩
        | succ g =>
          have hlt : (k : Int) < (n : Int) := by omega
          obtain ⟨b, o, a, x, y, rfl, hc1, hc2, HQ⟩ := (HV.out).get (i := k) (by have := HN.out; omega)
          obtain ⟨px, py, hpx, hpy, hpm, hq⟩ := bitsP_get (HQ.out) (by have := HL.out; omega) hok.out
          have HP : Hid (partsR x y = ((px : Int), (py : Int), 0)) := by show _ = _; rw [← hpx, ← hpy]; exact partsR_N hpm.1 hpm.2
          obtain ⟨PX, hPX⟩ : ∃ z : Int, (px : Int) = z := ⟨_, rfl⟩
          obtain ⟨PY, hPY⟩ : ∃ z : Int, (py : Int) = z := ⟨_, rfl⟩
          have hst := sD_step (f := fun _ => true) hq (by have := HL.out; omega)
          have hsf := sD_step (f := fun a => all || a == acc) hq (by have := HL.out; omega)
          simp only [if_true] at hst
          have hnn := sD_nn (fun _ => true) (qs.drop (k + 1))
          have ht := HT.out
          have hx := HX.out
          have hT' := hT.out
          rw [hst.1, hst.2] at ht
          rw [hsf.1, hsf.2] at hx
          have hp0 : 0 ≤ PX ∧ 0 ≤ PY := by omega
          rw [hPX, hPY] at ht hx HP
          have HT2 : Hid (A + PX + sD (fun _ => true) (qs.drop (k + 1)) = sD (fun _ => true) qs ∧ B + PY + sC (fun _ => true) (qs.drop (k + 1)) = sC (fun _ => true) qs) := by
            refine ⟨?_, ?_⟩ <;> omega
          have hA2 : 0 ≤ A + PX ∧ A + PX ≤ 1000000000000000 := by omega
          have hB2 : 0 ≤ B + PY ∧ B + PY ≤ 1000000000000000 := by omega
          have HA2 := Lib.hid hA2
          have HB2 := Lib.hid hB2
          have hg1 : ¬ (1000000000000000 < A + PX) := by omega
          have hg2 : ¬ (1000000000000000 < B + PY) := by omega
          obtain ⟨hA1, hA3⟩ := hA2
          obtain ⟨hB1, hB3⟩ := hB2
          obtain ⟨hx1, hx2⟩ := hX
          obtain ⟨hy1, hy2⟩ := hY
          obtain ⟨hp1, hp2⟩ := hp0
          have hx3 : X + PX ≤ A + PX := by omega
          have hy3 : Y + PY ≤ B + PY := by omega
          cases hm : (all || a == acc) with
          | true =>
            have HX2 : Hid (X + PX + sD (fun a => all || a == acc) (qs.drop (k + 1)) = D ∧ Y + PY + sC (fun a => all || a == acc) (qs.drop (k + 1)) = C) := by
              rw [hm] at hx
              simp only [if_true] at hx
              refine ⟨?_, ?_⟩ <;> omega
            clear hpx hpy hq hst hsf hnn ht hx hT' hPX hPY HT HX hA hB
            cases all with
            | true =>
              clear hm
              go_wp2_with fail
              refine (refParts_any x y PX PY 0 HP _).mono ?_
              rintro _ _ ⟨rfl, rfl⟩
              go_wp2
              go_roundg g
              case measure => omega
              case rel => exact ⟨k + 1, A + PX, B + PY, X + PX, Y + PY, by omega, by go_num, rfl, rfl, rfl, rfl, HA2.out, HB2.out, by omega, by omega, HT2, HX2, rfl⟩
            | false =>
              have hm2 : (a == acc) = true := by simpa using hm
              clear hm
              go_wp2_with fail
              refine (refParts_any x y PX PY 0 HP _).mono ?_
              rintro _ _ ⟨rfl, rfl⟩
              go_wp2
              go_roundg g
              case measure => omega
              case rel => exact ⟨k + 1, A + PX, B + PY, X + PX, Y + PY, by omega, by go_num, rfl, rfl, rfl, rfl, HA2.out, HB2.out, by omega, by omega, HT2, HX2, rfl⟩
          | false =>
            obtain rfl : all = false := by
              cases all with
              | false => rfl
              | true => exact absurd hm (by simp)
            have hm2 : (a == acc) = false := by simpa using hm
            have HX2 : Hid (X + sD (fun a => false || a == acc) (qs.drop (k + 1)) = D ∧ Y + sC (fun a => false || a == acc) (qs.drop (k + 1)) = C) := by
              rw [hm] at hx
              simp only [Bool.false_eq_true, if_false] at hx
              refine ⟨?_, ?_⟩ <;> omega
            clear hpx hpy hq hst hsf hnn ht hx hT' hPX hPY HT HX hA hB hm
            go_wp2_with fail
            refine (refParts_any x y PX PY 0 HP _).mono ?_
            rintro _ _ ⟨rfl, rfl⟩
            go_wp2
            go_roundg g
            case measure => omega
            case rel => exact ⟨k + 1, A + PX, B + PY, X, Y, by omega, by go_num, rfl, rfl, rfl, rfl, HA2.out, HB2.out, by omega, by omega, HT2, HX2, rfl⟩
    | succ g =>
      have hlt : (k : Int) < (n : Int) := by omega
      obtain ⟨b, o, a, x, y, rfl, hc1, hc2, HQ⟩ := (HV.out).get (i := k) (by have := HN.out; omega)
      obtain ⟨px, py, hpx, hpy, hpm, hq⟩ := bitsP_get (HQ.out) (by have := HL.out; omega) hok.out
      obtain ⟨PX, hPX⟩ : ∃ z : Int, (px : Int) = z := ⟨_, rfl⟩
      obtain ⟨PY, hPY⟩ : ∃ z : Int, (py : Int) = z := ⟨_, rfl⟩
      have HP : Hid (partsR x y = (PX, PY, 0)) := by show _ = _; rw [← hpx, ← hpy, ← hPX, ← hPY]; exact partsR_N hpm.1 hpm.2
      clear hpx hpy hq hPX hPY
      go_wp2_with fail
      refine (refParts_any x y PX PY 0 HP _).mono ?_
      rintro _ _ ⟨rfl, rfl⟩
      go_wp2
      go_roundg g
      case measure => omega
      case rel => exact ⟨k + 1, by omega, by go_num, rfl⟩
theorem refOf_any (v : Value) (qs : List (Int × Nat × Nat)) (acc x : Int) (hok : Hid (okP qs)) (hlen : qs.length ≤ 1000000) (hT : Hid (sD (fun _ => true) qs ≤ 1000000000000000 ∧ sC (fun _ => true) qs ≤ 1000000000000000))
    (hx : Hid (sD (fun a => false || a == acc) qs - sC (fun a => false || a == acc) qs = x)) (w : World) (hv : PoS w v (bitsP qs)) :
    Calls Try.prog 30 #[v, .int .i64 acc] w (Ret (.tuple #[.int .i64 x, .int .i64 0]) w) := by
  obtain ⟨D, hD⟩ : ∃ D, sD (fun a => false || a == acc) qs = D := ⟨_, rfl⟩
  obtain ⟨C, hC⟩ : ∃ C, sC (fun a => false || a == acc) qs = C := ⟨_, rfl⟩
  have b1 := sD_nn (fun a => false || a == acc) qs
  have b2 := sD_le (fun a => false || a == acc) qs
  have b3 := hT.out
  have hx' := hx.out
  rw [hD, hC] at b1 b2 hx'
  obtain ⟨c1, c2⟩ : (0 ≤ D ∧ D ≤ 1000000000000000) ∧ (0 ≤ C ∧ C ≤ 1000000000000000) := by omega
  have HD := Lib.hid (And.intro hD hC)
  have HV := Lib.hid hv
  have HX := Lib.hid hx'
  obtain ⟨ao, cap, rfl, h1, ⟨h2, _⟩, h3⟩ := hv
  clear h3 hD hC b1 b2 b3 hx' hx
  go_enter Try.func30, Try.ntmps30
  go_wp2_with fail
  refine (refTotal_any _ qs acc false D C hok hlen hT HD _ HV.out).mono ?_
  rintro _ _ ⟨rfl, rfl⟩
  go_wp2
  go_ret2
  rw [HX.out]
  exact ⟨rfl, rfl⟩
theorem refBalanced_any (v : Value) (qs : List (Int × Nat × Nat)) (hok : Hid (okP qs)) (hlen : qs.length ≤ 1000000) (hT : Hid (sD (fun _ => true) qs ≤ 1000000000000000 ∧ sC (fun _ => true) qs ≤ 1000000000000000))
    (hx : Hid (sD (fun _ => true) qs = sC (fun _ => true) qs)) (w : World) (hv : PoS w v (bitsP qs)) :
    Calls Try.prog 31 #[v] w (Ret (.bool true) w) := by
  obtain ⟨D, hD⟩ : ∃ D, sD (fun _ => true) qs = D := ⟨_, rfl⟩
  have HD : Hid (sD (fun a => true || a == 0) qs = D ∧ sC (fun a => true || a == 0) qs = D) := ⟨hD, by rw [← hD]; exact hx.out.symm⟩
  have HV := Lib.hid hv
  obtain ⟨ao, cap, rfl, h1, ⟨h2, _⟩, h3⟩ := hv
  clear h3 hD hx
  go_enter Try.func31, Try.ntmps31
  go_wp2_with fail
  refine (refTotal_any _ qs 0 true D D hok hlen hT HD _ HV.out).mono ?_
  rintro _ _ ⟨rfl, rfl⟩
  go_wp2
  go_ret
  exact ⟨rfl, rfl⟩
end Go.Proofs.Ytbiiejolemcifaa
