/- Postings in memory; both.sum, both.Sum over postings that are whole. -/
import Derived.Test.YtghmhgeakpjfkaaBothB
import Derived.Laws.ComplexArith
namespace Go.Proofs.Ytghmhgeakpjfkaa
open Go.RowKit FlM

theorem run_store_complex {P : Program} {w : World} {a : Addr} {m : Mode} (k : FloatKind) (x y : Nat) : (store a (.complex k x y) m).run P w = stored P w a (.complex k x y) m := run_store P w a _ m rfl
theorem run_store_float {P : Program} {w : World} {a : Addr} {m : Mode} (k : FloatKind) (x : Nat) : (store a (.float k x) m).run P w = stored P w a (.float k x) m := run_store P w a _ m rfl
attribute [local go_sem] run_store_complex run_store_float

/-- The value v is a slice that reads in w as these postings: an account, and the words of both parts. -/
def PoS (w : World) (v : Value) (ps : List (Int × Nat × Nat)) : Prop :=
  ∃ ao cap, v = .slice ao ps.length cap ∧ ps.length ≤ cap ∧ (cap ≤ maxLen ∧ (ao = none → cap = 0)) ∧
    (ps ≠ [] → ∃ b o, ao = some ⟨b, o, none⟩ ∧ ∀ i, i < ps.length → w.cell? ⟨b, o + i * 2, none⟩ = some (.int .i64 (ps.getD i (0, 0, 0)).1) ∧ w.cell? ⟨b, o + i * 2 + 1, none⟩ = some (.complex .f64 (ps.getD i (0, 0, 0)).2.1 (ps.getD i (0, 0, 0)).2.2))
theorem PoS.below {w w' : World} {v : Value} {ps : List (Int × Nat × Nat)} (h : PoS w v ps) (hb : Below w.heap.size w w') : PoS w' v ps := by
  obtain ⟨ao, cap, rfl, h1, h2, h3⟩ := h
  refine ⟨ao, cap, rfl, h1, h2, fun hx => ?_⟩
  obtain ⟨b, o, rfl, hc⟩ := h3 hx
  exact ⟨b, o, rfl, fun i hi => ⟨(hb.cell (p := ⟨b, o + i * 2, none⟩) (cell_block_lt (hc i hi).1)).trans (hc i hi).1, (hb.cell (p := ⟨b, o + i * 2 + 1, none⟩) (cell_block_lt (hc i hi).2)).trans (hc i hi).2⟩⟩
theorem PoS.get {w : World} {ao : Option Addr} {n cap : Nat} {ps : List (Int × Nat × Nat)} (h : PoS w (.slice ao n cap) ps) {i : Nat} (hi : i < ps.length) :
    ∃ b o a x y, ao = some ⟨b, o, none⟩ ∧ w.cell? ⟨b, o + i * 2, none⟩ = some (.int .i64 a) ∧ w.cell? ⟨b, o + i * 2 + 1, none⟩ = some (.complex .f64 x y) ∧ Hid (ps.getD i (0, 0, 0) = (a, x, y)) := by
  obtain ⟨ao', cap', e, h1, h2, h3⟩ := h
  cases e
  obtain ⟨b, o, rfl, hc⟩ := h3 (by intro h; rw [h] at hi; simp at hi)
  exact ⟨b, o, _, _, _, rfl, (hc i hi).1, (hc i hi).2, rfl⟩
/-- A new block of postings. -/
theorem PoS.lit (w : World) (e : TypeId) (ps : List (Int × Nat × Nat)) (n : Nat) (hn : ps.length = n) (cs : Array Value) (hc : cs = (ps.flatMap fun p => [Value.int .i64 p.1, Value.complex .f64 p.2.1 p.2.2]).toArray) (hm : n ≤ maxLen) :
    PoS (w.alloc (.cells cs e)) (.slice (some ⟨w.heap.size, 0, none⟩) n n) ps := by
  subst hc
  subst hn
  have hB : Blk (w.alloc (.cells (ps.flatMap fun p => [Value.int .i64 p.1, Value.complex .f64 p.2.1 p.2.2]).toArray e)) w.heap.size e (ps.flatMap fun p => [Value.int .i64 p.1, Value.complex .f64 p.2.1 p.2.2]) := heap_alloc_new w _
  refine ⟨_, _, rfl, Nat.le_refl _, ⟨hm, fun h => by cases h⟩, fun _ => ⟨w.heap.size, 0, rfl, fun i hi => ?_⟩⟩
  have key : ∀ (ps : List (Int × Nat × Nat)) (i : Nat), i < ps.length → (ps.flatMap fun p => [Value.int .i64 p.1, Value.complex .f64 p.2.1 p.2.2])[i * 2]? = some (.int .i64 (ps.getD i (0, 0, 0)).1) ∧ (ps.flatMap fun p => [Value.int .i64 p.1, Value.complex .f64 p.2.1 p.2.2])[i * 2 + 1]? = some (.complex .f64 (ps.getD i (0, 0, 0)).2.1 (ps.getD i (0, 0, 0)).2.2) := by
    intro ps
    induction ps with
    | nil => intro i hi; simp at hi
    | cons p ps ih =>
      intro i hi
      cases i with
      | zero => simp
      | succ i =>
        have := ih i (by simpa using hi)
        rw [show (i + 1) * 2 = i * 2 + 1 + 1 by omega]
        simpa using this
  rw [hB.cell, hB.cell, show 0 + i * 2 = i * 2 by omega]
  exact key ps i hi

/-- Postings of whole amounts, as words. -/
def bitsP (l : List (Int × Nat × Nat)) : List (Int × Nat × Nat) := l.map fun p => (p.1, FlM.N p.2.1, FlM.N p.2.2)
/-- Debits and credits of those that are meant, on from sums. -/
def tot (f : Int → Bool) (d c : Nat) : List (Int × Nat × Nat) → Option (Nat × Nat)
  | [] => some (d, c)
  | p :: l => if (if f p.1 then d + p.2.1 else d) ≤ 1000000000000000 ∧ (if f p.1 then c + p.2.2 else c) ≤ 1000000000000000 then tot f (if f p.1 then d + p.2.1 else d) (if f p.1 then c + p.2.2 else c) l else none
/-- All parts are whole, and none is too great. -/
def okP (l : List (Int × Nat × Nat)) : Prop := ∀ p ∈ l, p.2.1 ≤ 1000000000000000 ∧ p.2.2 ≤ 1000000000000000
theorem part_N_no {k : Nat} (h : 1000000000000000 < k) (h2 : k < 9007199254740992) : FlM.part (FlM.N k) = none := by
  cases hp : FlM.part (FlM.N k) with
  | none => rfl
  | some n =>
    have h1 := (part_some hp).2.1
    rw [toInt_rep (read_N k h2)] at h1
    have h3 := (part_some hp).1
    have := Option.some.inj h1
    omega
theorem sum_bits (a b c d : Nat) (h1 : a + c < 9007199254740992) (h2 : b + d < 9007199254740992) : cSumBits .add .f64 (FlM.N a) (FlM.N b) (FlM.N c) (FlM.N d) = some (FlM.N (a + c), FlM.N (b + d)) := by
  unfold cSumBits
  have e1 : floatBits .add .f64 (FlM.N a) (FlM.N c) = some (FlM.N (a + c)) := add_N a c h1
  have e2 : floatBits .add .f64 (FlM.N b) (FlM.N d) = some (FlM.N (b + d)) := add_N b d h2
  rw [e1, e2]
  rfl
theorem bitsP_get {qs : List (Int × Nat × Nat)} {k : Nat} {a : Int} {x y : Nat} (h : (bitsP qs).getD k (0, 0, 0) = (a, x, y)) (hk : k < qs.length) (hok : okP qs) :
    ∃ px py, FlM.N px = x ∧ FlM.N py = y ∧ (px ≤ 1000000000000000 ∧ py ≤ 1000000000000000) ∧ qs.getD k (0, 0, 0) = (a, px, py) := by
  have h1 : (bitsP qs).getD k (0, 0, 0) = ((qs.getD k (0, 0, 0)).1, FlM.N (qs.getD k (0, 0, 0)).2.1, FlM.N (qs.getD k (0, 0, 0)).2.2) := by
    simp [bitsP, List.getD, hk]
  rw [h1] at h
  injection h with e1 e2
  injection e2 with e2 e3
  have hm : qs.getD k (0, 0, 0) ∈ qs := by simp [List.getD, hk]
  exact ⟨_, _, e2, e3, hok _ hm, by rw [← e1]⟩
theorem tot_step {f : Int → Bool} {d c : Nat} {qs : List (Int × Nat × Nat)} {k : Nat} {a : Int} {px py : Nat} (h : qs.getD k (0, 0, 0) = (a, px, py)) (hk : k < qs.length) :
    tot f d c (qs.drop k) = if (if f a then d + px else d) ≤ 1000000000000000 ∧ (if f a then c + py else c) ≤ 1000000000000000 then tot f (if f a then d + px else d) (if f a then c + py else c) (qs.drop (k + 1)) else none := by
  rw [List.drop_eq_getElem_cons hk]
  have e : qs[k] = (a, px, py) := by
    rw [← h]
    simp [List.getD, hk]
  rw [e]
  rfl
theorem sum1_any (a : Int) (x y : Nat) (w : World) : Calls Try.prog 45 #[.agg #[.int .i64 a, .complex .f64 x y]] w (RetB (.bool true) w) := by
  go_enter Try.func45, Try.ntmps45
  go_wp2
  go_ret
  exact ⟨rfl, (by repeat (first | with_reducible exact Below.refl _ _ | (with_reducible refine bl_sc ?_ ?hge; case hge => (first | exact Nat.le_refl _ | omega)) | with_reducible refine bl_al ?_ _ | with_reducible refine bl_dr ?_ | with_reducible refine bl_dN ?_ _ | (refine bl_tr ?_ (by assumption)) | (refine bl_gr ?_ (by assumption) (by first | exact Nat.le_refl _ | omega)) | exact Below.refl _ _ | refine bl_al ?_ _ | refine bl_dr ?_ | refine bl_dN ?_ _))⟩
/-- The answer of a sum. -/
def SumR (r : Option (Nat × Nat)) (w : World) (e : Ending) (w' : World) : Prop := (∃ d c, r = some (d, c) ∧ e = .returned (.tuple #[.complex .f64 (FlM.N d) (FlM.N c), .int .i64 0]) ∨ r = none ∧ e = .returned (.tuple #[.complex .f64 0 0, .int .i64 5])) ∧ Below w.heap.size w w'

set_option maxHeartbeats 800000 in
theorem sumAll_any (v : Value) (qs : List (Int × Nat × Nat)) (hok : Hid (okP qs)) (hlen : qs.length ≤ 1000000) (w : World) (hv : PoS w v (bitsP qs)) :
    Calls Try.prog 44 #[v, .func (.func 45) #[] #[]] w (SumR (tot (fun _ => true) 0 0 qs) w) := by
  have HV := Lib.hid hv
  obtain ⟨ao, cap, rfl, h1, ⟨h2, _⟩, h3⟩ := hv
  clear h3
  unfold maxLen at h2
  have hl : (bitsP qs).length = qs.length := by simp [bitsP]
  obtain ⟨n, hn⟩ : ∃ n, (bitsP qs).length = n := ⟨_, rfl⟩
  rw [hn] at h1 hl HV ⊢
  have HN := Lib.hid hn
  have HL := Lib.hid hl
  have hnl : n ≤ 1000000 := by omega
  obtain ⟨res, hres⟩ : ∃ r, tot (fun _ => true) 0 0 qs = r := ⟨_, rfl⟩
  rw [hres]
  have HRES := Lib.hid hres
  clear hres hn hl hlen
  go_enter Try.func44, Try.ntmps44
  go_wp2_with fail
  go_loopg [6, 11] n (fun g cc i wr => ∃ (k d c nd nc : Nat), k + g = n ∧ i = .int .i64 k ∧ cc = .complex .f64 nd nc ∧ Hid (FlM.N d = nd ∧ FlM.N c = nc) ∧ Hid (d ≤ 1000000000000000 ∧ c ≤ 1000000000000000) ∧ Hid (tot (fun _ => true) d c (qs.drop k) = res) ∧ Below w.heap.size w wr)
  case atStart => exact ⟨0, 0, 0, 0, 0, by omega, rfl, rfl, ⟨N_zero, N_zero⟩, ⟨by omega, by omega⟩, HRES, Below.refl _ _⟩
  case round =>
    obtain ⟨k, d, c, nd, nc, hkg, rfl, rfl, HND, HDC, HT, hb⟩ := hrel
    cases gk with
    | zero =>
      have hlt : ¬ ((k : Int) < (n : Int)) := by omega
      have HR : Hid (res = some (d, c)) := by
        have := HT.out
        rw [List.drop_of_length_le (by have := HL.out; omega)] at this
        exact this.symm
      clear HT
      go_wp2
      go_ret2
      refine ⟨⟨d, c, Or.inl ⟨HR.out, ?_⟩⟩, hb⟩
      rw [HND.out.1, HND.out.2]
      rfl
    | succ g =>
      have hlt : (k : Int) < (n : Int) := by omega
      have hb' : Below w.heap.size w wr := hb
      obtain ⟨b, o, a, x, y, rfl, hc1, hc2, HX⟩ := (HV.out.below hb).get (i := k) (by have := HN.out; omega)
      have hqk := bitsP_get (HX.out) (by have := HL.out; omega) hok.out
      obtain ⟨px, py, hpx, hpy, hpm, hq⟩ := hqk
      have HPX := Lib.hid (And.intro hpx hpy)
      have hst := tot_step (f := fun _ => true) (d := d) (c := c) hq (by have := HL.out; omega)
      rw [HT.out] at hst
      have HST := Lib.hid hst
      clear hst hpx hpy hq HT
      obtain ⟨nd2, hnd2⟩ : ∃ x, FlM.N (d + px) = x := ⟨_, rfl⟩
      obtain ⟨nc2, hnc2⟩ : ∃ x, FlM.N (c + py) = x := ⟨_, rfl⟩
      have hdc := HDC.out
      have hsb := sum_bits d c px py (by omega) (by omega)
      rw [HND.out.1, HND.out.2, HPX.out.1, HPX.out.2, hnd2, hnc2] at hsb
      have csum := fun W => run_complex_sum (P := Try.prog) W .add (Or.inl rfl) 23 .f64 nd nc x y nd2 nc2 hsb
      have HND2 := Lib.hid (And.intro hnd2 hnc2)
      have HBLK : Hid (Blk (wr.alloc (.cells #[.int .i64 a, .complex .f64 x y] 36)) wr.heap.size 36 [.int .i64 a, .complex .f64 x y]) := heap_alloc_new wr _
      have hbw : Below w.heap.size w (wr.alloc (.cells #[.int .i64 a, .complex .f64 x y] 36)) := bl_al hb _
      clear hsb hnd2 hnc2
      go_wp2_with fail
      refine (sum1_any a x y _).mono ?_
      rintro _ w1 ⟨rfl, hb1⟩
      have hp0 := (HBLK.out.below hb1).cell 0
      have hp1 := (HBLK.out.below hb1).cell 1
      simp only [List.getElem?_cons_zero, List.getElem?_cons_succ] at hp0 hp1
      have hb2 := bl_tr hbw hb1
      clear hb hb1 hbw HBLK hdc
      by_cases hle : d + px ≤ 1000000000000000 ∧ c + py ≤ 1000000000000000
      · have HW : Hid (((FlM.part nd2).isSome && (FlM.part nc2).isSome) = true) := by
          show _ = _
          rw [← HND2.out.1, ← HND2.out.2, part_N _ hle.1, part_N _ hle.2]
          rfl
        have HT2 : Hid (tot (fun _ => true) (d + px) (c + py) (qs.drop (k + 1)) = res) := by
          have := HST.out
          simp only [if_true] at this
          rw [if_pos hle] at this
          exact this.symm
        have HLE := Lib.hid hle
        clear hle HST
        go_wp2_with fail
        refine (whole_any nd2 nc2 _ HW _).mono ?_
        rintro _ w2 ⟨rfl, rfl⟩
        go_wp2
        go_roundg g
        case measure => omega
        case rel => exact ⟨k + 1, d + px, c + py, nd2, nc2, by omega, by go_num, rfl, HND2, HLE, HT2, hb2⟩
      · have HW : Hid (((FlM.part nd2).isSome && (FlM.part nc2).isSome) = false) := by
          show _ = _
          have hdc := HDC.out
          rw [← HND2.out.1, ← HND2.out.2]
          by_cases h : d + px ≤ 1000000000000000
          · rw [part_N_no (k := c + py) (by omega) (by omega)]
            simp
          · rw [part_N_no (k := d + px) (by omega) (by omega)]
            rfl
        have HR : Hid (res = none) := by
          have := HST.out
          simp only [if_true] at this
          rw [if_neg hle] at this
          exact this
        clear hle HST
        go_wp2_with fail
        refine (whole_any nd2 nc2 _ HW _).mono ?_
        rintro _ w2 ⟨rfl, rfl⟩
        go_wp2
        go_ret2
        exact ⟨⟨0, 0, Or.inr ⟨HR.out, rfl⟩⟩, hb2⟩
end Go.Proofs.Ytghmhgeakpjfkaa
