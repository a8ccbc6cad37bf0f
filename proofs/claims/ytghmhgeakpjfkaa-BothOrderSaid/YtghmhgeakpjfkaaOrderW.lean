/- BothOrder: postings of any numbers, added in another order, are the same. -/
import Derived.Test.YtghmhgeakpjfkaaOrderM
import Derived.Test.YtghmhgeakpjfkaaLaw04B
import Derived.Test.YtghmhgeakpjfkaaAppend
import Derived.BigRegion
import Derived.Deep.Cut
namespace Go.Proofs.Ytghmhgeakpjfkaa
open Go.RowKit
attribute [local go_sem] run_store_complex run_store_float

theorem info_post : (Try.prog.info? 36).map (fun i => (i.zero, i.size, i.bytes)) = some (some (.agg #[.int .i64 0, .complex .f64 0 0]), 2, 24) := by kernel_rfl
theorem u64_amt (x : Int) : ∃ V : Nat, (IntKind.u64.wrap x).tmod 15625000000000 = (V : Int) ∧ IntKind.u64.wrap x % 15625000000000 = (V : Int) ∧ wrap64 (V : Int) = (V : Int) ∧ V < 15625000000000 ∧ (IntKind.u64.wrap x % 15625000000000).toNat = V := by
  have h0 : 0 ≤ IntKind.u64.wrap x := by rw [IntKind.wrap_u64]; omega
  have h1 := Int.emod_nonneg (IntKind.u64.wrap x) (show (15625000000000 : Int) ≠ 0 by omega)
  have h2 := Int.emod_lt_of_pos (IntKind.u64.wrap x) (show (0 : Int) < 15625000000000 by omega)
  obtain ⟨V, hV⟩ := Int.eq_ofNat_of_zero_le h1
  refine ⟨V, by rw [Int.tmod_eq_emod_of_nonneg h0]; exact hV, hV, ?_, by omega, by omega⟩
  unfold wrap64; omega
theorem news_p (w : World) (a b : Value) (t : TypeId) : ∀ j u, [a, b][j]? = some u → (w.alloc (.cells #[a, b] t)).cell? ((⟨w.heap.size, 0, none⟩ : Addr).add j) = some u := by
  intro j u hu
  have h : Blk (w.alloc (.cells #[a, b] t)) w.heap.size t [a, b] := heap_alloc_new w _
  rw [Addr.add_lit, h.cell, Nat.zero_add]
  exact hu

theorem PoS.setOther {w : World} {g o n cap a i : Nat} {v : Value} {ps : List (Int × Nat × Nat)} (h : PoS w (.slice (some ⟨g, o, none⟩) n cap) ps) (hne : g ≠ a) : PoS (w.setCell ⟨a, i, none⟩ v) (.slice (some ⟨g, o, none⟩) n cap) ps := by
  obtain ⟨ao, cap', e, h1, h2, h3⟩ := h
  cases e
  refine ⟨_, _, rfl, h1, h2, fun hx => ?_⟩
  obtain ⟨b, o', e, hc⟩ := h3 hx
  cases e
  have hq : ∀ j, (w.setCell ⟨a, i, none⟩ v).cell? ⟨g, j, none⟩ = w.cell? ⟨g, j, none⟩ := fun j => World.cell?_of_block (w := w) (a := ⟨g, j, none⟩) (heap_setCell_other w ⟨a, i, none⟩ g v hne)
  exact ⟨g, o, rfl, fun j hj => ⟨(hq _).trans (hc j hj).1, (hq _).trans (hc j hj).2⟩⟩
theorem bitsP_swap {ms : List (Int × Nat × Nat)} {i j : Nat} (hi : i < ms.length) (hj : j < ms.length) : bitsP (swapP ms i j) = ((bitsP ms).set i ((bitsP ms).getD j (0, 0, 0))).set j ((bitsP ms).getD i (0, 0, 0)) := by
  unfold swapP bitsP
  rw [List.map_set, List.map_set]
  simp [List.getD, hi, hj]
theorem swap_blk {w : World} {g n cm : Nat} {e : TypeId} {cur : List Value} {ms : List (Int × Nat × Nat)} {i j : Nat} {a1 b1 : Int} {a2 a3 b2 b3 : Nat} (h : Blk w g e cur) (hl : cur.length = cm * 2) (ht : cur.take (n * 2) = cellsP (bitsP ms)) (hm : ms.length = n) (hi : i < n) (hj : j < n) (ha : (bitsP ms).getD i (0, 0, 0) = (a1, a2, a3)) (hb : (bitsP ms).getD j (0, 0, 0) = (b1, b2, b3)) :
    ∃ cur', Blk ((((w.setCell ⟨g, i * 2, none⟩ (.int .i64 b1)).setCell ⟨g, i * 2 + 1, none⟩ (.complex .f64 b2 b3)).setCell ⟨g, j * 2, none⟩ (.int .i64 a1)).setCell ⟨g, j * 2 + 1, none⟩ (.complex .f64 a2 a3)).drew g e cur' ∧ cur'.length = cm * 2 ∧ cur'.take (n * 2) = cellsP (bitsP (swapP ms i j)) := by
  refine ⟨_, (((h.set (i * 2) _).set (i * 2 + 1) _).set (j * 2) _).set (j * 2 + 1) _, by simpa using hl, ?_⟩
  have hbl : (bitsP ms).length = n := by unfold bitsP; rw [List.length_map, hm]
  rw [bitsP_swap (by omega) (by omega), ha, hb, cellsP_set _ _ _ (by rw [List.length_set]; omega), cellsP_set _ _ _ (by omega), ← ht]
  simp only [List.take_set]

theorem sumW_at (v : Value) (qs : List (Int × Nat × Nat)) (D C p q : Nat) (hok : Hid (okP qs)) (hlen : qs.length ≤ 1000000) (hT : Hid (tot (fun _ => true) 0 0 qs = some (D, C))) (hpq : FlM.N D = p ∧ FlM.N C = q) (w : World) (hv : PoS w v (bitsP qs)) :
    Calls Try.prog 22 #[v] w (RetB (.tuple #[.complex .f64 p q, .int .i64 0]) w) := by
  obtain ⟨rfl, rfl⟩ := hpq
  refine (sumW_any v qs hok hlen w hv).mono fun e w' h => ?_
  obtain ⟨⟨d, c, h⟩, hb⟩ := h
  rcases h with ⟨h, he⟩ | ⟨h, he⟩
  · rw [hT.out] at h
    cases h
    exact ⟨he, hb⟩
  · rw [hT.out] at h
    cases h

set_option maxHeartbeats 3200000 in
set_option maxRecDepth 100000 in
theorem order_go (v u : Value) (xs us : List Int) (hlen : xs.length ≤ 40) (hne : 1 ≤ xs.length) (w : World) (hv : Sl .i64 w v xs) (hu : Sl .i64 w u us) :
    Calls Try.prog 4 #[v, u] w (RetB (.bool true) w) := by
  have HV := Lib.hid hv
  have HU := Lib.hid hu
  obtain ⟨ao, cap, rfl, h1, ⟨h2, hnn⟩, h3⟩ := hv
  clear h3 hnn
  obtain ⟨ao', cap', rfl, h1', ⟨h2', hnn⟩, h3⟩ := hu
  clear h3 hnn
  unfold maxLen at h2 h2'
  have t0 : decide ((40 : Int) < (xs.length : Int)) = false := by simp; omega
  obtain ⟨i0, hi, hz0, hz1, hz2⟩ := info_parts info_post
  go_enter Try.func4, Try.ntmps4
  go_wp2_with fail
  clear t0
  go_loopg [5, 6] xs.length (fun g s i wr => ∃ (k : Nat) (K : Int), k + g = xs.length ∧ i = .int .i64 K ∧ Hid (K = (k : Int)) ∧ wr.ownsRow w.heap.size 36 2 s k (cellsP (bitsP (qsK xs k))) ∧ Below w.heap.size w wr)
  case atStart => exact ⟨0, 0, by omega, rfl, rfl, World.ownsRow_nil _ _ _ _, Below.refl _ _⟩
  case round =>
    obtain ⟨k, K, hkg, rfl, HK, hown, hb⟩ := hrel
    cases gk with
    | succ g =>
      have hlt : K < (xs.length : Int) := by have := HK.out; omega
      have hk40 : k < 40 := by omega
      obtain ⟨b', o', x, rfl, hcell, HX⟩ := (HV.out.below hb).get (i := k) (by omega)
      have hK0 : 0 ≤ K := by have := HK.out; omega
      have hK40 : K < 40 := by have := HK.out; omega
      have hKn : K.toNat = k := by have := HK.out; omega
      rw [← hKn] at hcell
      have HKN := Lib.hid hKn
      clear hKn
      have hbs := hb.size
      obtain ⟨V, k1, k2, k3, k4, k5⟩ := u64_amt x
      have HA : Hid (amt xs k = V) := by show _ = _; unfold amt; rw [HX.out]; exact k5
      obtain ⟨s, hs⟩ : ∃ s, FlM.N V = s := ⟨_, rfl⟩
      have HS : Hid (Hid (sideW (V : Int) = s)) := by show _ = _; rw [sideW_N V (Nat.le_of_lt (Nat.lt_trans k4 (by decide))), hs]
      have HNS := Lib.hid hs
      have HOWN := Lib.hid hown
      have HBW := Lib.hid hb
      clear k3 k5 hs hown hb
      go_wp2_with fail
      refine (debit_any (V : Int) s HS.out _).mono ?_
      rintro _ _ ⟨rfl, rfl⟩
      by_cases hpar : k % 2 = 1
      · have hp : (K % 2 == 1) = true := by have := HK.out; simp; omega
        go_wp2_with fail
        refine (credit_any (V : Int) s HS.out _).mono ?_
        rintro _ _ ⟨rfl, rfl⟩
        go_wp2_with (at_builtin; refine wpList_append_any _ rfl (.tmp 51) (.tmp 53) 33 rfl w.heap.size 36 i0 (.agg #[.int .i64 0, .complex .f64 0 0]) 2 24 Try.underlying33 hi hz0 hz1 hz2 rfl (by decide) _ k (cellsP (bitsP (qsK xs k))) rfl ((HOWN.out.alloc _).alloc _) (some ⟨wr.heap.size + 1, 0, none⟩) 1 1 [.int .i64 (K % 3), .complex .f64 0 s] rfl rfl (by intro h; cases h) (by intro ad had; cases had; have h := news_p (wr.alloc (.cells #[.int .i64 (K % 3), .complex .f64 0 s] 36)) (.int .i64 (K % 3)) (.complex .f64 0 s) 36; simp only [World.size_alloc] at h; exact h) (fun x hx => by simp at hx; rcases hx with rfl | rfl <;> rfl) (by unfold maxLen; omega) (by omega) (by simp only [World.size_alloc]; omega) ?_; intro v1 w1 hown1 hg1 hn1; clear hn1; have HO1 := Lib.hid hown1; have HG1 := Lib.hid hg1; clear hown1 hg1)
        have HB1 : Hid (Below w.heap.size w w1) := Below.grown (bl_al (bl_al HBW.out _) _) HG1.out (by simp only [World.size_alloc]; omega) (fun q hq => (HOWN.out.lt q hq).1)
        have HO2 : Hid (w1.ownsRow w.heap.size 36 2 v1 (k + 1) (cellsP (bitsP (qsK xs (k + 1))))) := by
          have e : cellsP (bitsP (qsK xs (k + 1))) = cellsP (bitsP (qsK xs k)) ++ [.int .i64 (K % 3), .complex .f64 0 s] := by
            have e1 : ((k % 3 : Nat) : Int) = K % 3 := by rw [HK.out]; omega
            rw [qsK_succ]
            unfold bitsP
            rw [List.map_append, cellsP_append]
            simp only [List.map_cons, List.map_nil, qAt, if_pos hpar, HA.out, e1, HNS.out, FlM.N_zero]
            rfl
          rw [e]
          exact HO1.out
        clear hp
        go_wp2_with fail
        go_roundg g
        case measure => omega
        case rel => exact ⟨k + 1, K + 1, by omega, rfl, by have := HK.out; show _ = _; omega, HO2.out, HB1.out⟩
      · have hp : (K % 2 == 1) = false := by have := HK.out; simp; omega
        go_wp2_with (at_builtin; refine wpList_append_any _ rfl (.tmp 51) (.tmp 53) 33 rfl w.heap.size 36 i0 (.agg #[.int .i64 0, .complex .f64 0 0]) 2 24 Try.underlying33 hi hz0 hz1 hz2 rfl (by decide) _ k (cellsP (bitsP (qsK xs k))) rfl ((HOWN.out.alloc _).alloc _) (some ⟨wr.heap.size + 1, 0, none⟩) 1 1 [.int .i64 (K % 3), .complex .f64 s 0] rfl rfl (by intro h; cases h) (by intro ad had; cases had; have h := news_p (wr.alloc (.cells #[.int .i64 (K % 3), .complex .f64 s 0] 36)) (.int .i64 (K % 3)) (.complex .f64 s 0) 36; simp only [World.size_alloc] at h; exact h) (fun x hx => by simp at hx; rcases hx with rfl | rfl <;> rfl) (by unfold maxLen; omega) (by omega) (by simp only [World.size_alloc]; omega) ?_; intro v1 w1 hown1 hg1 hn1; clear hn1; have HO1 := Lib.hid hown1; have HG1 := Lib.hid hg1; clear hown1 hg1)
        have HB1 : Hid (Below w.heap.size w w1) := Below.grown (bl_al (bl_al HBW.out _) _) HG1.out (by simp only [World.size_alloc]; omega) (fun q hq => (HOWN.out.lt q hq).1)
        have HO2 : Hid (w1.ownsRow w.heap.size 36 2 v1 (k + 1) (cellsP (bitsP (qsK xs (k + 1))))) := by
          have e : cellsP (bitsP (qsK xs (k + 1))) = cellsP (bitsP (qsK xs k)) ++ [.int .i64 (K % 3), .complex .f64 s 0] := by
            have e1 : ((k % 3 : Nat) : Int) = K % 3 := by rw [HK.out]; omega
            rw [qsK_succ]
            unfold bitsP
            rw [List.map_append, cellsP_append]
            simp only [List.map_cons, List.map_nil, qAt, if_neg hpar, HA.out, e1, HNS.out, FlM.N_zero]
            rfl
          rw [e]
          exact HO1.out
        clear hp
        go_wp2_with fail
        go_roundg g
        case measure => omega
        case rel => exact ⟨k + 1, K + 1, by omega, rfl, by have := HK.out; show _ = _; omega, HO2.out, HB1.out⟩
    | zero =>
      have hlt : ¬ (K < (xs.length : Int)) := by have := HK.out; omega
      obtain rfl : k = xs.length := by omega
      obtain ⟨gl, cl, rfl⟩ := own_shape hown (by omega)
      have HOW := Lib.hid hown
      have HPL := Lib.hid (PoS.of_own hown (by unfold bitsP; rw [List.length_map, qsK_length]))
      have HBW := Lib.hid hb
      have hcl := (HOW.out.lt gl rfl)
      obtain ⟨cur0, hB0, hn0, hm0, hl0, ht0, _⟩ := blk_of_own hown
      have HN0 := Lib.hid (And.intro hn0 hm0)
      have hnews : ∀ ad, (some (⟨gl, 0, none⟩ : Addr)) = some ad → ∀ j u, (cellsP (bitsP (qsK xs xs.length)))[j]? = some u → wr.cell? (ad.add j) = some u := by
        intro ad had j u hu
        cases had
        exact hown.cells (g := gl) rfl j u hu
      have hone : ∀ x ∈ cellsP (bitsP (qsK xs xs.length)), x.oneCell' = true := by
        intro x hx
        unfold cellsP at hx
        obtain ⟨p, _, hp⟩ := List.mem_flatMap.1 hx
        simp at hp
        rcases hp with rfl | rfl <;> rfl
      have hlen2 : (cellsP (bitsP (qsK xs xs.length))).length = xs.length * 2 := by rw [cellsP_length]; unfold bitsP; rw [List.length_map, qsK_length]
      have HZ := Lib.hid (And.intro hnews (And.intro hone hlen2))
      have hbs := hb.size
      clear hown hb hB0 hl0 ht0 hnews hone hlen2 cur0 hn0 hm0
      go_wp2_with (at_builtin; refine wpList_append_any _ rfl (.const (.slice none 0 0)) (.tmp 55) 33 rfl wr.heap.size 36 i0 (.agg #[.int .i64 0, .complex .f64 0 0]) 2 24 Try.underlying33 hi hz0 hz1 hz2 rfl (by decide) (.slice none 0 0) 0 [] rfl (World.ownsRow_nil _ _ _ _) (some ⟨gl, 0, none⟩) xs.length cl (cellsP (bitsP (qsK xs xs.length))) rfl HZ.out.2.2 (by intro h; cases h) HZ.out.1 HZ.out.2.1 (by unfold maxLen; omega) (by omega) (Nat.le_refl _) ?_; intro v2 w2 hown2 hg2 hn2; clear hn2; have HO2 := Lib.hid hown2; have HG2 := Lib.hid hg2; clear hown2 hg2)
      have hown2 : w2.ownsRow wr.heap.size 36 2 v2 xs.length (cellsP (bitsP (qsK xs xs.length))) := by
        have h := HO2.out
        rw [Nat.zero_add, List.nil_append] at h
        exact h
      obtain ⟨gm, cm, rfl⟩ := own_shape hown2 (by omega)
      obtain ⟨cur1, hB1, hn1, hm1, hl1, ht1, hge⟩ := blk_of_own hown2
      have hb12 : Below wr.heap.size wr w2 := grown_below1 HG2.out
      have HPL2 := Lib.hid (HPL.out.below hb12)
      have HBW2 := Lib.hid (bl_tr HBW.out hb12)
      have HN1 := Lib.hid (And.intro hn1 hm1)
      obtain ⟨n, hn⟩ : ∃ n, xs.length = n := ⟨_, rfl⟩
      have HPM : Hid (∃ cur, Blk w2 gm 36 cur ∧ cur.length = cm * 2 ∧ cur.take (n * 2) = cellsP (bitsP (qsK xs n))) := by rw [← hn]; exact ⟨cur1, hB1, hl1, ht1⟩
      have hgl : gl < gm := by omega
      have hgw : w.heap.size ≤ gm := by omega
      rw [hn] at HPL2 HN1 HN0 hlen hne hlt h1 ⊢
      have HNX := Lib.hid hn
      clear hown2 hB1 hn1 hm1 hl1 ht1 hge hb12 HO2 HG2 HZ HOW HBW HPL hcl cur1 hn hlt hi hz0 hz1 hz2
      go_loopg [10] us.length (fun g i wq => ∃ (j : Nat) (J : Int) (ms : List (Int × Nat × Nat)), j + g = us.length ∧ i = .int .i64 J ∧ Hid (J = (j : Int)) ∧ Hid (ms.Perm (qsK xs n)) ∧ Hid (∃ cur, Blk wq gm 36 cur ∧ cur.length = cm * 2 ∧ cur.take (n * 2) = cellsP (bitsP ms)) ∧ Hid (PoS wq (.slice (some ⟨gl, 0, none⟩) n cl) (bitsP (qsK xs n))) ∧ Below w.heap.size w wq)
      case atStart => exact ⟨0, 0, _, by omega, rfl, rfl, List.Perm.refl _, HPM.out, HPL2.out, HBW2.out⟩
      case round =>
        obtain ⟨j, J, ms, hjg, rfl, HJ, HP, HM, HL, hbq⟩ := hrel
        by_cases hgo : j < us.length ∧ j < 40
        · obtain ⟨hg1, hg2⟩ := hgo
          cases gk with
          | zero => exact absurd hjg (by omega)
          | succ g2 =>
            have hJl : J < (us.length : Int) := by have := HJ.out; omega
            have hJ40 : J < 40 := by have := HJ.out; omega
            have hJ0 : 0 ≤ J := by have := HJ.out; omega
            have hJn : J.toNat = j := by have := HJ.out; omega
            obtain ⟨bu, ou, y, rfl, hcu, HY⟩ := (HU.out.below hbq).get (i := j) hg1
            rw [← hJn] at hcu
            have hn0 : (0 : Int) < (n : Int) := by omega
            have hms : ms.length = n := by rw [HP.out.length_eq, qsK_length]
            obtain ⟨A, hA1, hA2, hA3⟩ : ∃ A : Int, J.tmod (n : Int) = A ∧ J % (n : Int) = A ∧ 0 ≤ A ∧ A < (n : Int) := ⟨J % (n : Int), by rw [Int.tmod_eq_emod_of_nonneg hJ0], rfl, Int.emod_nonneg _ (by omega), Int.emod_lt_of_pos _ hn0⟩
            have hw0 : 0 ≤ IntKind.u64.wrap y := by rw [IntKind.wrap_u64]; omega
            obtain ⟨Q, hQ1, hQ2, hQ3⟩ : ∃ Q : Int, (IntKind.u64.wrap y).tmod (n : Int) = Q ∧ IntKind.u64.wrap y % (n : Int) = Q ∧ 0 ≤ Q ∧ Q < (n : Int) := ⟨IntKind.u64.wrap y % (n : Int), by rw [Int.tmod_eq_emod_of_nonneg hw0], rfl, Int.emod_nonneg _ (by omega), Int.emod_lt_of_pos _ hn0⟩
            obtain ⟨cur, hBm, hcl1, hct1⟩ := HM.out
            have hgc : ∀ i : Nat, i < n → (wr.cell? ⟨gm, i * 2, none⟩ = some (.int .i64 ((bitsP ms).getD i (0, 0, 0)).1) ∧ wr.cell? ⟨gm, i * 2 + 1, none⟩ = some (.complex .f64 ((bitsP ms).getD i (0, 0, 0)).2.1 ((bitsP ms).getD i (0, 0, 0)).2.2)) := by
              intro i hi2
              have hbl : (bitsP ms).length = n := by unfold bitsP; rw [List.length_map, hms]
              obtain ⟨e1, e2⟩ := cellsP_get (bitsP ms) i (by omega)
              have key : ∀ q, q < n * 2 → cur[q]? = (cellsP (bitsP ms))[q]? := fun q hq => by rw [← hct1]; simp [hq]
              rw [hBm.cell, hBm.cell, key _ (by omega), key _ (by omega)]
              exact ⟨e1, e2⟩
            have hAn : A.toNat < n := by omega
            have hQn : Q.toNat < n := by omega
            obtain ⟨ca1, ca2⟩ := hgc A.toNat hAn
            obtain ⟨cq1, cq2⟩ := hgc Q.toNat hQn
            have HFZ : Hid (∀ i, wr.frozen? ⟨gm, i, none⟩ = false) := fun i => hBm.frozen i
            obtain ⟨⟨a1, a2, a3⟩, hqa⟩ : ∃ p, (bitsP ms).getD A.toNat (0, 0, 0) = p := ⟨_, rfl⟩
            obtain ⟨⟨b1, b2, b3⟩, hqb⟩ : ∃ p, (bitsP ms).getD Q.toNat (0, 0, 0) = p := ⟨_, rfl⟩
            rw [hqa] at ca1 ca2
            rw [hqb] at cq1 cq2
            have HQA := Lib.hid hqa
            have HQB := Lib.hid hqb
            have HBM := Lib.hid hBm
            have HCT := Lib.hid (And.intro hcl1 hct1)
            have HMS := Lib.hid hms
            have HBQ := Lib.hid hbq
            have f1 := HFZ.out (A.toNat * 2)
            have f2 := HFZ.out (A.toNat * 2 + 1)
            have f3 := HFZ.out (Q.toNat * 2)
            have f4 := HFZ.out (Q.toNat * 2 + 1)
            have hnn := HN1.out
            clear hgc hqa hqb hBm hcl1 hct1 hms hbq hw0 hJn
            go_upto_region 17 with fail
            by_cases hAQ : A = Q
            · subst hAQ
              go_region
              have HNM := Lib.hid (swap_blk HBM.out HCT.out.1 HCT.out.2 HMS.out hAn hAn HQA.out HQA.out)
              clear f1 f2 f3 f4 ca1 ca2 cq1 cq2 hA1 hA2 hQ1 hQ2
              go_wp2_with fail
              go_roundg g2
              case measure => omega
              case rel => exact ⟨j + 1, J + 1, swapP ms A.toNat A.toNat, by omega, rfl, by have := HJ.out; show _ = _; omega, (swapP_perm (by rw [HMS.out]; exact hAn) (by rw [HMS.out]; exact hAn)).trans HP.out, HNM.out, ((((HL.out.setOther (by omega)).setOther (by omega)).setOther (by omega)).setOther (by omega)).below (bl_dr (Below.refl _ _)), ((((HBQ.out.setCell (show w.heap.size ≤ gm by omega) _).setCell (show w.heap.size ≤ gm by omega) _).setCell (show w.heap.size ≤ gm by omega) _).setCell (show w.heap.size ≤ gm by omega) _).drew⟩
            · have hne1 : ¬ A.toNat * 2 = Q.toNat * 2 := by omega
              have hne2 : ¬ A.toNat * 2 = Q.toNat * 2 + 1 := by omega
              have hne3 : ¬ A.toNat * 2 + 1 = Q.toNat * 2 := by omega
              have hne4 : ¬ A.toNat * 2 + 1 = Q.toNat * 2 + 1 := by omega
              have hne5 : ¬ Q.toNat * 2 = A.toNat * 2 := by omega
              have hne6 : ¬ Q.toNat * 2 = A.toNat * 2 + 1 := by omega
              have hne7 : ¬ Q.toNat * 2 + 1 = A.toNat * 2 := by omega
              have hne8 : ¬ Q.toNat * 2 + 1 = A.toNat * 2 + 1 := by omega
              go_region
              clear hne1 hne2 hne3 hne4 hne5 hne6 hne7 hne8 f1 f2 f3 f4 ca1 ca2 cq1 cq2 hA1 hA2 hQ1 hQ2
              have HNM := Lib.hid (swap_blk HBM.out HCT.out.1 HCT.out.2 HMS.out hAn hQn HQA.out HQB.out)
              go_wp2_with fail
              go_roundg g2
              case measure => omega
              case rel => exact ⟨j + 1, J + 1, swapP ms A.toNat Q.toNat, by omega, rfl, by have := HJ.out; show _ = _; omega, (swapP_perm (by rw [HMS.out]; exact hAn) (by rw [HMS.out]; exact hQn)).trans HP.out, HNM.out, ((((HL.out.setOther (by omega)).setOther (by omega)).setOther (by omega)).setOther (by omega)).below (bl_dr (Below.refl _ _)), ((((HBQ.out.setCell (show w.heap.size ≤ gm by omega) _).setCell (show w.heap.size ≤ gm by omega) _).setCell (show w.heap.size ≤ gm by omega) _).setCell (show w.heap.size ≤ gm by omega) _).drew⟩
        · obtain ⟨D, C, v0, v1, v2, hDC, hT1, hT2, hO0, hO1, hO2, hV, hBal, hv0, hv1, hv2⟩ := order_all (xs := xs) (n := n) hlen HP.out
          obtain ⟨p, hp⟩ : ∃ p, FlM.N D = p := ⟨_, rfl⟩
          obtain ⟨q, hq⟩ : ∃ q, FlM.N C = q := ⟨_, rfl⟩
          obtain ⟨DI, hDI⟩ : ∃ DI : Int, (D : Int) = DI := ⟨_, rfl⟩
          obtain ⟨CI, hCI⟩ : ∃ CI : Int, (C : Int) = CI := ⟨_, rfl⟩
          have HT1 : Hid (tot (fun _ => true) 0 0 (qsK xs n) = some (D, C)) := hT1
          have HT2 : Hid (tot (fun _ => true) 0 0 ms = some (D, C)) := hT2
          have HO0 : Hid (ofR 0 ms = (v0, 0)) := hO0
          have HO1 : Hid (ofR 1 ms = (v1, 0)) := hO1
          have HO2 : Hid (ofR 2 ms = (v2, 0)) := hO2
          have HVS : Hid (v0 + v1 + v2 = DI - CI) := by show _ = _; rw [hV, hDI, hCI]
          have HPA : Hid (partsR p q = (DI, CI, 0)) := by
            show _ = _
            unfold partsR
            rw [← hp, ← hq, FlM.part_N D hDC.1, FlM.part_N C hDC.2]
            simp only [hDI, hCI]
          obtain ⟨r, hr⟩ : ∃ r : Bool, (DI == CI) = r := ⟨_, rfl⟩
          have HBR : Hid (balR ms = r) := by
            show _ = _
            rw [hBal, ← hr, ← hDI, ← hCI]
            rw [Bool.eq_iff_iff]
            simp only [beq_iff_eq]
            omega
          have HRR := Lib.hid hr
          have HPQ := Lib.hid (And.intro hp hq)
          have hbD : (0 ≤ DI ∧ DI ≤ 1000000000000000) ∧ (0 ≤ CI ∧ CI ≤ 1000000000000000) := by omega
          have HOK1 := Lib.hid (qsK_ok xs n)
          have HOK2 := Lib.hid (okP_perm HP.out (qsK_ok xs n))
          have hms : ms.length = n := by rw [HP.out.length_eq, qsK_length]
          have hLN : (qsK xs n).length ≤ 1000000 := by rw [qsK_length]; omega
          have hMN : ms.length ≤ 1000000 := by omega
          have HLEN := Lib.hid (And.intro hLN hMN)
          have HPM2 : Hid (PoS wr (.slice (some ⟨gm, 0, none⟩) n cm) (bitsP ms)) := by
            obtain ⟨cur, hB, hl, ht⟩ := HM.out
            exact PoS.of_blk hB (by unfold bitsP; rw [List.length_map, hms]) HN1.out.1 HN1.out.2 ht
          have HBQ := Lib.hid hbq
          have hex : (J < (us.length : Int) ∧ ¬ J < 40) ∨ ¬ J < (us.length : Int) := by have := HJ.out; omega
          clear hT1 hT2 hO0 hO1 hO2 hV hBal hp hq hDI hCI hr hms hLN hMN hbq hDC hgo hjg
          rcases hex with ⟨hx1, hx2⟩ | hx1
          all_goals
            go_wp2_with fail
            refine (sumW_at _ (qsK xs n) D C p q HOK1 HLEN.out.1 HT1 HPQ.out _ HL.out).mono ?_
            rintro _ w4 ⟨rfl, hb4⟩
            have HM4 := Lib.hid (HPM2.out.below hb4)
            have HB4 := Lib.hid (bl_tr HBQ.out hb4)
            clear hb4
            go_wp2_with fail
            refine (sumW_at _ ms D C p q HOK2 HLEN.out.2 HT2 HPQ.out _ HM4.out).mono ?_
            rintro _ w5 ⟨rfl, hb5⟩
            have HM5 := Lib.hid (HM4.out.below hb5)
            have HB5 := Lib.hid (bl_tr HB4.out hb5)
            clear hb5
            go_wp2_with fail
            go_loopg [16, 17] 3 (fun g s i wq => ∃ (T S : Int), i = .int .i64 T ∧ s = .int .i64 S ∧ Hid ((T = 0 ∧ S = 0 ∧ g = 3) ∨ (T = 1 ∧ S = v0 ∧ g = 2) ∨ (T = 2 ∧ S = v0 + v1 ∧ g = 1) ∨ (T = 3 ∧ S = DI - CI ∧ g = 0)) ∧ Hid (PoS wq (.slice (some ⟨gm, 0, none⟩) n cm) (bitsP ms)) ∧ Hid (Below w.heap.size w wq))
            case atStart => exact ⟨0, 0, rfl, rfl, .inl ⟨rfl, rfl, rfl⟩, HM5.out, HB5.out⟩
            case round =>
              obtain ⟨T, S, rfl, rfl, HC, HMq, HBq⟩ := hrel
              rcases HC.out with ⟨rfl, rfl, rfl⟩ | ⟨rfl, rfl, rfl⟩ | ⟨rfl, rfl, rfl⟩ | ⟨rfl, rfl, rfl⟩
              · go_wp2_with fail
                refine (of_any 0 _ ms HOK2 HLEN.out.2 v0 0 HO0 _ HMq.out).mono ?_
                rintro _ w6 ⟨rfl, hb6⟩
                have HM6 := Lib.hid (HMq.out.below hb6)
                have HB6 := Lib.hid (bl_tr HBq.out hb6)
                clear hb6
                go_wp2_with fail
                go_roundg 2
                case measure => omega
                case rel => exact ⟨1, v0, rfl, by simp, .inr (.inl ⟨rfl, rfl, rfl⟩), HM6.out, HB6.out⟩
              · go_wp2_with fail
                refine (of_any 1 _ ms HOK2 HLEN.out.2 v1 0 HO1 _ HMq.out).mono ?_
                rintro _ w6 ⟨rfl, hb6⟩
                have HM6 := Lib.hid (HMq.out.below hb6)
                have HB6 := Lib.hid (bl_tr HBq.out hb6)
                clear hb6
                go_wp2_with fail
                go_roundg 1
                case measure => omega
                case rel => exact ⟨2, S + v1, rfl, rfl, .inr (.inr (.inl ⟨rfl, rfl, rfl⟩)), HM6.out, HB6.out⟩
              · go_wp2_with fail
                refine (of_any 2 _ ms HOK2 HLEN.out.2 v2 0 HO2 _ HMq.out).mono ?_
                rintro _ w6 ⟨rfl, hb6⟩
                have HM6 := Lib.hid (HMq.out.below hb6)
                have HB6 := Lib.hid (bl_tr HBq.out hb6)
                clear hb6
                go_wp2_with fail
                go_roundg 0
                case measure => omega
                case rel => exact ⟨3, v0 + v1 + v2, rfl, rfl, .inr (.inr (.inr ⟨rfl, HVS.out, rfl⟩)), HM6.out, HB6.out⟩
              · go_wp2_with fail
                refine (parts_any p q DI CI 0 HPA _).mono ?_
                rintro _ _ ⟨rfl, rfl⟩
                go_wp2_with fail
                refine (awake4_any _).mono ?_
                rintro _ w7 ⟨rfl, hb7⟩
                have HM7 := Lib.hid (HMq.out.below hb7)
                have HB7 := Lib.hid (bl_tr HBq.out hb7)
                clear hb7
                go_wp2_with fail
                refine (eq4_any p q _).mono ?_
                rintro _ _ ⟨rfl, rfl⟩
                go_wp2_with fail
                refine (balanced_any _ ms HOK2 HLEN.out.2 r HBR _ HM7.out).mono ?_
                rintro _ w8 ⟨rfl, hb8⟩
                have HB8 := Lib.hid (bl_tr HB7.out hb8)
                have hrr := HRR.out
                clear hb8
                go_wp2_with fail
                go_ret
                exact ⟨rfl, HB8.out⟩

theorem PoS.nil {w : World} : PoS w (.slice none 0 0) [] := ⟨none, 0, rfl, Nat.le_refl _, ⟨by simp [maxLen], fun _ => rfl⟩, fun h => absurd rfl h⟩
set_option maxHeartbeats 3200000 in
set_option maxRecDepth 100000 in
theorem order_nil (v u : Value) (us : List Int) (w : World) (hv : Sl .i64 w v []) (hu : Sl .i64 w u us) :
    Calls Try.prog 4 #[v, u] w (RetB (.bool true) w) := by
  obtain ⟨ao, cap, rfl, h1, ⟨h2, hnn⟩, h3⟩ := hv
  clear h3 hnn
  obtain ⟨ao', cap', rfl, h1', ⟨h2', hnn⟩, h3⟩ := hu
  clear h3 hnn
  unfold maxLen at h2 h2'
  obtain ⟨i0, hi, hz0, hz1, hz2⟩ := info_parts info_post
  go_enter Try.func4, Try.ntmps4
  go_wp2_with fail
  refine wp_loop_rounds 1 ?_
  rw [rounds_succ]
  go_wp2_with (at_builtin; refine wpList_append_any _ rfl (.const (.slice none 0 0)) (.tmp 55) 33 rfl w.heap.size 36 i0 (.agg #[.int .i64 0, .complex .f64 0 0]) 2 24 Try.underlying33 hi hz0 hz1 hz2 rfl (by decide) (.slice none 0 0) 0 [] rfl (World.ownsRow_nil _ _ _ _) none 0 0 [] rfl rfl (fun _ => ⟨rfl, rfl⟩) (by intro ad had; cases had) (fun x hx => by simp at hx) (by unfold maxLen; omega) (by omega) (Nat.le_refl _) ?_; intro v2 w2 hown2 hg2 hn2; clear hn2; have HO := Lib.hid hown2; have HG2 := Lib.hid hg2; clear hown2 hg2)
  have hown2 : w2.ownsRow w.heap.size 36 2 v2 0 (cellsP []) := HO.out
  have hpm := PoS.of_own hown2 rfl
  obtain ⟨am, cm, rfl, _⟩ := hpm
  have HPM2 : Hid (PoS w2 (.slice am 0 cm) (bitsP [])) := PoS.of_own hown2 rfl
  have hbq : Below w.heap.size w w2 := grown_below1 HG2.out
  clear hown2 HO HG2 hi hz0 hz1 hz2
  obtain ⟨xs, hxs⟩ : ∃ xs : List Int, xs = [] := ⟨_, rfl⟩
  obtain ⟨n, hn⟩ : ∃ n : Nat, n = 0 := ⟨_, rfl⟩
  obtain ⟨ms, hms0⟩ : ∃ ms : List (Int × Nat × Nat), ms = [] := ⟨_, rfl⟩
  subst hn hxs hms0
  obtain ⟨D, C, v0, v1, v2, hDC, hT1, hT2, hO0, hO1, hO2, hV, hBal, hv0, hv1, hv2⟩ := order_all (xs := []) (n := 0) (m := []) (by decide) (List.Perm.refl _)
  obtain ⟨p, hp⟩ : ∃ p, FlM.N D = p := ⟨_, rfl⟩
  obtain ⟨q, hq⟩ : ∃ q, FlM.N C = q := ⟨_, rfl⟩
  obtain ⟨DI, hDI⟩ : ∃ DI : Int, (D : Int) = DI := ⟨_, rfl⟩
  obtain ⟨CI, hCI⟩ : ∃ CI : Int, (C : Int) = CI := ⟨_, rfl⟩
  have HT1 : Hid (tot (fun _ => true) 0 0 ([]) = some (D, C)) := hT1
  have HT2 : Hid (tot (fun _ => true) 0 0 [] = some (D, C)) := hT2
  have HO0 : Hid (ofR 0 [] = (v0, 0)) := hO0
  have HO1 : Hid (ofR 1 [] = (v1, 0)) := hO1
  have HO2 : Hid (ofR 2 [] = (v2, 0)) := hO2
  have HVS : Hid (v0 + v1 + v2 = DI - CI) := by show _ = _; rw [hV, hDI, hCI]
  have HPA : Hid (partsR p q = (DI, CI, 0)) := by
    show _ = _
    unfold partsR
    rw [← hp, ← hq, FlM.part_N D hDC.1, FlM.part_N C hDC.2]
    simp only [hDI, hCI]
  obtain ⟨r, hr⟩ : ∃ r : Bool, (DI == CI) = r := ⟨_, rfl⟩
  have HBR : Hid (balR [] = r) := by
    show _ = _
    rw [hBal, ← hr, ← hDI, ← hCI]
    rw [Bool.eq_iff_iff]
    simp only [beq_iff_eq]
    omega
  have HRR := Lib.hid hr
  have HPQ := Lib.hid (And.intro hp hq)
  have hbD : (0 ≤ DI ∧ DI ≤ 1000000000000000) ∧ (0 ≤ CI ∧ CI ≤ 1000000000000000) := by omega
  have HOK1 := Lib.hid (qsK_ok [] 0)
  have HOK2 := Lib.hid (okP_perm (List.Perm.refl _) (qsK_ok [] 0))
  have hms : ([] : List (Int × Nat × Nat)).length = 0 := rfl
  have hLN : ([] : List (Int × Nat × Nat)).length ≤ 1000000 := by decide
  have hMN : ([] : List (Int × Nat × Nat)).length ≤ 1000000 := by decide
  have HLEN := Lib.hid (And.intro hLN hMN)
  have HBQ := Lib.hid hbq
  clear hT1 hT2 hO0 hO1 hO2 hV hBal hp hq hDI hCI hr hms hLN hMN hbq hDC
  by_cases hu0 : (0 : Int) < (us.length : Int)
  all_goals
    refine wp_loop_rounds 1 ?_
    rw [rounds_succ]
    go_wp2_with fail
    refine (sumW_at _ ([]) D C p q HOK1 HLEN.out.1 HT1 HPQ.out _ PoS.nil).mono ?_
    rintro _ w4 ⟨rfl, hb4⟩
    have HM4 := Lib.hid (HPM2.out.below hb4)
    have HB4 := Lib.hid (bl_tr HBQ.out hb4)
    clear hb4
    go_wp2_with fail
    refine (sumW_at _ [] D C p q HOK2 HLEN.out.2 HT2 HPQ.out _ HM4.out).mono ?_
    rintro _ w5 ⟨rfl, hb5⟩
    have HM5 := Lib.hid (HM4.out.below hb5)
    have HB5 := Lib.hid (bl_tr HB4.out hb5)
    clear hb5
    go_wp2_with fail
    go_loopg [16, 17] 3 (fun g s i wq => ∃ (T S : Int), i = .int .i64 T ∧ s = .int .i64 S ∧ Hid ((T = 0 ∧ S = 0 ∧ g = 3) ∨ (T = 1 ∧ S = v0 ∧ g = 2) ∨ (T = 2 ∧ S = v0 + v1 ∧ g = 1) ∨ (T = 3 ∧ S = DI - CI ∧ g = 0)) ∧ Hid (PoS wq (.slice am 0 cm) (bitsP [])) ∧ Hid (Below w.heap.size w wq))
    case atStart => exact ⟨0, 0, rfl, rfl, .inl ⟨rfl, rfl, rfl⟩, HM5.out, HB5.out⟩
    case round =>
      obtain ⟨T, S, rfl, rfl, HC, HMq, HBq⟩ := hrel
      rcases HC.out with ⟨rfl, rfl, rfl⟩ | ⟨rfl, rfl, rfl⟩ | ⟨rfl, rfl, rfl⟩ | ⟨rfl, rfl, rfl⟩
      · go_wp2_with fail
        refine (of_any 0 _ [] HOK2 HLEN.out.2 v0 0 HO0 _ HMq.out).mono ?_
        rintro _ w6 ⟨rfl, hb6⟩
        have HM6 := Lib.hid (HMq.out.below hb6)
        have HB6 := Lib.hid (bl_tr HBq.out hb6)
        clear hb6
        go_wp2_with fail
        go_roundg 2
        case measure => omega
        case rel => exact ⟨1, v0, rfl, by simp, .inr (.inl ⟨rfl, rfl, rfl⟩), HM6.out, HB6.out⟩
      · go_wp2_with fail
        refine (of_any 1 _ [] HOK2 HLEN.out.2 v1 0 HO1 _ HMq.out).mono ?_
        rintro _ w6 ⟨rfl, hb6⟩
        have HM6 := Lib.hid (HMq.out.below hb6)
        have HB6 := Lib.hid (bl_tr HBq.out hb6)
        clear hb6
        go_wp2_with fail
        go_roundg 1
        case measure => omega
        case rel => exact ⟨2, S + v1, rfl, rfl, .inr (.inr (.inl ⟨rfl, rfl, rfl⟩)), HM6.out, HB6.out⟩
      · go_wp2_with fail
        refine (of_any 2 _ [] HOK2 HLEN.out.2 v2 0 HO2 _ HMq.out).mono ?_
        rintro _ w6 ⟨rfl, hb6⟩
        have HM6 := Lib.hid (HMq.out.below hb6)
        have HB6 := Lib.hid (bl_tr HBq.out hb6)
        clear hb6
        go_wp2_with fail
        go_roundg 0
        case measure => omega
        case rel => exact ⟨3, v0 + v1 + v2, rfl, rfl, .inr (.inr (.inr ⟨rfl, HVS.out, rfl⟩)), HM6.out, HB6.out⟩
      · go_wp2_with fail
        refine (parts_any p q DI CI 0 HPA _).mono ?_
        rintro _ _ ⟨rfl, rfl⟩
        go_wp2_with fail
        refine (awake4_any _).mono ?_
        rintro _ w7 ⟨rfl, hb7⟩
        have HM7 := Lib.hid (HMq.out.below hb7)
        have HB7 := Lib.hid (bl_tr HBq.out hb7)
        clear hb7
        go_wp2_with fail
        refine (eq4_any p q _).mono ?_
        rintro _ _ ⟨rfl, rfl⟩
        go_wp2_with fail
        refine (balanced_any _ [] HOK2 HLEN.out.2 r HBR _ HM7.out).mono ?_
        rintro _ w8 ⟨rfl, hb8⟩
        have HB8 := Lib.hid (bl_tr HB7.out hb8)
        have hrr := HRR.out
        clear hb8
        go_wp2_with fail
        go_ret
        exact ⟨rfl, HB8.out⟩

set_option maxRecDepth 100000 in
theorem bothOrder_any (v u : Value) (xs us : List Int) (w : World) (hv : Sl .i64 w v xs) (hu : Sl .i64 w u us) :
    Calls Try.prog 4 #[v, u] w (RetB (.bool true) w) := by
  by_cases hlen : xs.length ≤ 40
  · by_cases h0 : 1 ≤ xs.length
    · exact order_go v u xs us hlen h0 w hv hu
    · obtain rfl : xs = [] := List.eq_nil_of_length_eq_zero (by omega)
      exact order_nil v u us w hv hu
  · obtain ⟨ao, cap, rfl, h1, ⟨h2, hnn⟩, h3⟩ := hv
    clear h3 hnn
    unfold maxLen at h2
    have t0 : decide ((40 : Int) < (xs.length : Int)) = true := by simp; omega
    go_enter Try.func4, Try.ntmps4
    go_wp2_with fail
    refine (awake4_any _).mono ?_
    rintro _ w1 ⟨rfl, hb1⟩
    go_wp2_with fail
    go_ret
    exact ⟨rfl, hb1⟩
end Go.Proofs.Ytghmhgeakpjfkaa
