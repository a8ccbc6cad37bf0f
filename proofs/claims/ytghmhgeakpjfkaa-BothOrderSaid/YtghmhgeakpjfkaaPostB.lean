/- both.sum of an account; both.Sum, Of, Balanced. -/
import Derived.Test.YtghmhgeakpjfkaaPost
namespace Go.Proofs.Ytghmhgeakpjfkaa
open Go.RowKit FlM
attribute [local go_sem] run_store_complex run_store_float

theorem cell_below {w w' : World} {g : Nat} {v : Value} (h : w.cell? ⟨g, 0, none⟩ = some v) (hb : Below w.heap.size w w') : w'.cell? ⟨g, 0, none⟩ = some v := (hb.cell (p := ⟨g, 0, none⟩) (cell_block_lt h)).trans h
theorem of1_any (a ac : Int) (x y gb : Nat) (r : Bool) (hr : (a == ac) = r) (w : World) (hcap : w.cell? ⟨gb, 0, none⟩ = some (.int .i64 ac)) :
    Calls Try.prog 46 #[.agg #[.int .i64 a, .complex .f64 x y], .pointer (some ⟨gb, 0, none⟩)] w (RetB (.bool r) w) := by
  have hg : gb < w.heap.size := cell_block_lt hcap
  go_enter Try.func46, Try.ntmps46
  go_wp2
  go_ret
  exact ⟨rfl, (by repeat (first | with_reducible exact Below.refl _ _ | (with_reducible refine bl_sc ?_ ?hge; case hge => (first | exact Nat.le_refl _ | omega)) | with_reducible refine bl_al ?_ _ | with_reducible refine bl_dr ?_ | with_reducible refine bl_dN ?_ _ | (refine bl_tr ?_ (by assumption)) | (refine bl_gr ?_ (by assumption) (by first | exact Nat.le_refl _ | omega)) | exact Below.refl _ _ | refine bl_al ?_ _ | refine bl_dr ?_ | refine bl_dN ?_ _))⟩

set_option maxHeartbeats 800000 in
theorem sumOf_any (ac : Int) (gb : Nat) (v : Value) (qs : List (Int × Nat × Nat)) (hok : Hid (okP qs)) (hlen : qs.length ≤ 1000000) (w : World) (hcap : w.cell? ⟨gb, 0, none⟩ = some (.int .i64 ac)) (hv : PoS w v (bitsP qs)) :
    Calls Try.prog 44 #[v, .func (.func 46) #[] #[.pointer (some ⟨gb, 0, none⟩)]] w (SumR (tot (fun x => x == ac) 0 0 qs) w) := by
  have HV := Lib.hid hv
  have HCAP := Lib.hid hcap
  clear hcap
  obtain ⟨ao, cap, rfl, h1, ⟨h2, _⟩, h3⟩ := hv
  clear h3
  unfold maxLen at h2
  have hl : (bitsP qs).length = qs.length := by simp [bitsP]
  obtain ⟨n, hn⟩ : ∃ n, (bitsP qs).length = n := ⟨_, rfl⟩
  rw [hn] at h1 hl HV ⊢
  have HN := Lib.hid hn
  have HL := Lib.hid hl
  have hnl : n ≤ 1000000 := by omega
  obtain ⟨res, hres⟩ : ∃ r, tot (fun x => x == ac) 0 0 qs = r := ⟨_, rfl⟩
  rw [hres]
  have HRES := Lib.hid hres
  clear hres hn hl hlen
  go_enter Try.func44, Try.ntmps44
  go_wp2_with fail
  go_loopg [6, 11] n (fun g cc i wr => ∃ (k d c nd nc : Nat), k + g = n ∧ i = .int .i64 k ∧ cc = .complex .f64 nd nc ∧ Hid (FlM.N d = nd ∧ FlM.N c = nc) ∧ Hid (d ≤ 1000000000000000 ∧ c ≤ 1000000000000000) ∧ Hid (tot (fun x => x == ac) d c (qs.drop k) = res) ∧ Below w.heap.size w wr)
  case atStart => exact ⟨0, 0, 0, 0, 0, by omega, rfl, rfl, ⟨N_zero, N_zero⟩, ⟨by omega, by omega⟩, HRES, Below.refl _ _⟩
  case round =>
    obtain ⟨k, d, c, nd, nc, hkg, rfl, rfl, HND, HDC, HT, hb⟩ := hrel
    cases gk with
    | zero =>
      have hlt : ¬ ((k : Int) < (n : Int)) := by omega
      have HR : Hid (res = some (d, c)) := by
        have := HT.out
        rw [List.drop_of_length_le (by have := HL.out; omega)] at this
        exact this.symm
      clear HT
      go_wp2
      go_ret2
      refine ⟨⟨d, c, Or.inl ⟨HR.out, ?_⟩⟩, hb⟩
      rw [HND.out.1, HND.out.2]
      rfl
    | succ g =>
      have hlt : (k : Int) < (n : Int) := by omega
      have hb' : Below w.heap.size w wr := hb
      obtain ⟨b, o, a, x, y, rfl, hc1, hc2, HX⟩ := (HV.out.below hb).get (i := k) (by have := HN.out; omega)
      have hqk := bitsP_get (HX.out) (by have := HL.out; omega) hok.out
      obtain ⟨px, py, hpx, hpy, hpm, hq⟩ := hqk
      have HPX := Lib.hid (And.intro hpx hpy)
      have hst := tot_step (f := fun x => x == ac) (d := d) (c := c) hq (by have := HL.out; omega)
      rw [HT.out] at hst
      have HST := Lib.hid hst
      clear hst hpx hpy hq HT
      obtain ⟨nd2, hnd2⟩ : ∃ x, FlM.N (d + px) = x := ⟨_, rfl⟩
      obtain ⟨nc2, hnc2⟩ : ∃ x, FlM.N (c + py) = x := ⟨_, rfl⟩
      have hdc := HDC.out
      have hsb := sum_bits d c px py (by omega) (by omega)
      rw [HND.out.1, HND.out.2, HPX.out.1, HPX.out.2, hnd2, hnc2] at hsb
      have csum := fun W => run_complex_sum (P := Try.prog) W .add (Or.inl rfl) 23 .f64 nd nc x y nd2 nc2 hsb
      have HND2 := Lib.hid (And.intro hnd2 hnc2)
      have HBLK : Hid (Blk (wr.alloc (.cells #[.int .i64 a, .complex .f64 x y] 36)) wr.heap.size 36 [.int .i64 a, .complex .f64 x y]) := heap_alloc_new wr _
      have hbw : Below w.heap.size w (wr.alloc (.cells #[.int .i64 a, .complex .f64 x y] 36)) := bl_al hb _
      clear hsb hnd2 hnc2
      rcases (show ((a == ac) = true) ∨ ((a == ac) = false) by cases a == ac <;> simp) with hac | hac
      · have HAC := Lib.hid hac
        clear hac
        go_wp2_with fail
        refine (of1_any a ac x y gb true HAC.out _ (cell_below HCAP.out hbw)).mono ?_
        rintro _ w1 ⟨rfl, hb1⟩
        have hp0 := (HBLK.out.below hb1).cell 0
        have hp1 := (HBLK.out.below hb1).cell 1
        simp only [List.getElem?_cons_zero, List.getElem?_cons_succ] at hp0 hp1
        have hb2 := bl_tr hbw hb1
        clear hb hb1 hbw HBLK hdc
        by_cases hle : d + px ≤ 1000000000000000 ∧ c + py ≤ 1000000000000000
        · have HW : Hid (((FlM.part nd2).isSome && (FlM.part nc2).isSome) = true) := by
            show _ = _
            rw [← HND2.out.1, ← HND2.out.2, part_N _ hle.1, part_N _ hle.2]
            rfl
          have HT2 : Hid (tot (fun x => x == ac) (d + px) (c + py) (qs.drop (k + 1)) = res) := by
            have := HST.out
            simp only [HAC.out, if_true] at this
            rw [if_pos hle] at this
            exact this.symm
          have HLE := Lib.hid hle
          clear hle HST
          go_wp2_with fail
          refine (whole_any nd2 nc2 _ HW _).mono ?_
          rintro _ w2 ⟨rfl, rfl⟩
          go_wp2
          go_roundg g
          case measure => omega
          case rel => exact ⟨k + 1, d + px, c + py, nd2, nc2, by omega, by go_num, rfl, HND2, HLE, HT2, hb2⟩
        · have HW : Hid (((FlM.part nd2).isSome && (FlM.part nc2).isSome) = false) := by
            show _ = _
            have hdc := HDC.out
            rw [← HND2.out.1, ← HND2.out.2]
            by_cases h : d + px ≤ 1000000000000000
            · rw [part_N_no (k := c + py) (by omega) (by omega)]
              simp
            · rw [part_N_no (k := d + px) (by omega) (by omega)]
              rfl
          have HR : Hid (res = none) := by
            have := HST.out
            simp only [HAC.out, if_true] at this
            rw [if_neg hle] at this
            exact this
          clear hle HST
          go_wp2_with fail
          refine (whole_any nd2 nc2 _ HW _).mono ?_
          rintro _ w2 ⟨rfl, rfl⟩
          go_wp2
          go_ret2
          exact ⟨⟨0, 0, Or.inr ⟨HR.out, rfl⟩⟩, hb2⟩

      · have HAC := Lib.hid hac
        clear hac
        go_wp2_with fail
        refine (of1_any a ac x y gb false HAC.out _ (cell_below HCAP.out hbw)).mono ?_
        rintro _ w1 ⟨rfl, hb1⟩
        have hb2 := bl_tr hbw hb1
        have HW : Hid (((FlM.part nd).isSome && (FlM.part nc).isSome) = true) := by
          show _ = _
          rw [← HND.out.1, ← HND.out.2, part_N _ hdc.1, part_N _ hdc.2]
          rfl
        have HT2 : Hid (tot (fun x => x == ac) d c (qs.drop (k + 1)) = res) := by
          have := HST.out
          simp only [HAC.out] at this
          simp only [Bool.false_eq_true, if_false] at this
          rw [if_pos hdc] at this
          exact this.symm
        clear hb hb1 hbw HBLK hdc HST csum HND2
        go_wp2_with fail
        refine (whole_any nd nc _ HW _).mono ?_
        rintro _ w2 ⟨rfl, rfl⟩
        go_wp2
        go_roundg g
        case measure => omega
        case rel => exact ⟨k + 1, d, c, nd, nc, by omega, by go_num, rfl, HND, HDC, HT2, hb2⟩



set_option maxHeartbeats 800000 in
theorem sumW_any (v : Value) (qs : List (Int × Nat × Nat)) (hok : Hid (okP qs)) (hlen : qs.length ≤ 1000000) (w : World) (hv : PoS w v (bitsP qs)) :
    Calls Try.prog 22 #[v] w (SumR (tot (fun _ => true) 0 0 qs) w) := by
  have HV := Lib.hid hv
  obtain ⟨ao, cap, rfl, h1, ⟨h2, _⟩, h3⟩ := hv
  clear h3
  unfold maxLen at h2
  have hl : (bitsP qs).length = qs.length := by simp [bitsP]
  have HV0 := HV
  obtain ⟨n, hn⟩ : ∃ n, (bitsP qs).length = n := ⟨_, rfl⟩
  rw [hn] at h1 hl HV HV0 ⊢
  have HN := Lib.hid hn
  have HL := Lib.hid hl
  have HLEN := Lib.hid hlen
  have hnl : n ≤ 1000000 := by omega
  obtain ⟨res, hres⟩ : ∃ r, tot (fun _ => true) 0 0 qs = r := ⟨_, rfl⟩
  rw [hres]
  have HRES := Lib.hid hres
  clear hres hn hl hlen
  go_enter Try.func22, Try.ntmps22
  go_wp2_with fail
  go_loopg [8] n (fun g i wr => ∃ (k : Nat), k + g = n ∧ i = .int .i64 k ∧ Below w.heap.size w wr)
  case atStart => exact ⟨0, by omega, rfl, Below.refl _ _⟩
  case round =>
    obtain ⟨k, hkg, rfl, hb⟩ := hrel
    cases gk with
    | zero =>
      have hlt : ¬ ((k : Int) < (n : Int)) := by omega
      go_wp2_with fail
      have hs := sumAll_any _ qs hok HLEN.out _ (HV0.out.below hb)
      rw [HRES.out] at hs
      refine hs.mono ?_
      rintro _ w1 ⟨⟨d, c, hx⟩, hb1⟩
      rcases hx with ⟨hr, rfl⟩ | ⟨hr, rfl⟩
      all_goals
        have HR := Lib.hid hr
        clear hr
        have hb2 := bl_tr hb hb1
        go_wp2
        go_ret2
        first | exact ⟨⟨d, c, Or.inl ⟨HR.out, rfl⟩⟩, hb2⟩ | exact ⟨⟨d, c, Or.inr ⟨HR.out, rfl⟩⟩, hb2⟩
    | succ g =>
      have hlt : (k : Int) < (n : Int) := by omega
      obtain ⟨b, o, a, x, y, rfl, hc1, hc2, HX⟩ := (HV.out.below hb).get (i := k) (by have := HN.out; omega)
      obtain ⟨px, py, hpx, hpy, hpm, _⟩ := bitsP_get (HX.out) (by have := HL.out; omega) hok.out
      have HW : Hid (((FlM.part x).isSome && (FlM.part y).isSome) = true) := by
        show _ = _
        rw [← hpx, ← hpy, part_N _ hpm.1, part_N _ hpm.2]
        rfl
      clear hpx hpy hpm
      have hbw : Below w.heap.size w (wr.alloc (.cells #[.int .i64 a, .complex .f64 x y] 36)) := bl_al hb _
      go_wp2_with fail
      refine (whole_any x y _ HW _).mono ?_
      rintro _ w2 ⟨rfl, rfl⟩
      go_wp2
      go_roundg g
      case measure => omega
      case rel => exact ⟨k + 1, by omega, by go_num, hbw⟩
end Go.Proofs.Ytghmhgeakpjfkaa
