/- Slices of postings, and their words; what whole amounts are together. -/
import Derived.Test.YtbiiejolemcifaaFlMath
import Derived.Test.YtbiiejolemcifaaLib
import Derived.Laws.ComplexArith
namespace Go.Proofs.Ytbiiejolemcifaa
open Go.RowKit FlM

theorem run_store_complex {P : Program} {w : World} {a : Addr} {m : Mode} (k : FloatKind) (x y : Nat) : (store a (.complex k x y) m).run P w = stored P w a (.complex k x y) m := run_store P w a _ m rfl
theorem run_store_float {P : Program} {w : World} {a : Addr} {m : Mode} (k : FloatKind) (x : Nat) : (store a (.float k x) m).run P w = stored P w a (.float k x) m := run_store P w a _ m rfl
attribute [local go_sem] run_store_complex run_store_float

theorem floatOf_N (n : Nat) : floatOfInt .f64 (n : Int) = FlM.N n := by
  show FloatKind.f64.encode (.number (decide ((n : Int) < 0)) ((n : Int)).natAbs 0) = _
  have h1 : decide ((n : Int) < 0) = false := by simp
  rw [h1, Int.natAbs_natCast]
  rfl
/-- The value v is a slice that reads in w as these postings: an account, and the words of both parts. -/
def PoS (w : World) (v : Value) (ps : List (Int × Nat × Nat)) : Prop :=
  ∃ ao cap, v = .slice ao ps.length cap ∧ ps.length ≤ cap ∧ (cap ≤ maxLen ∧ (ao = none → cap = 0)) ∧
    (ps ≠ [] → ∃ b o, ao = some ⟨b, o, none⟩ ∧ ∀ i, i < ps.length → w.cell? ⟨b, o + i * 2, none⟩ = some (.int .i64 (ps.getD i (0, 0, 0)).1) ∧ w.cell? ⟨b, o + i * 2 + 1, none⟩ = some (.complex .f64 (ps.getD i (0, 0, 0)).2.1 (ps.getD i (0, 0, 0)).2.2))
theorem PoS.below {w w' : World} {v : Value} {ps : List (Int × Nat × Nat)} (h : PoS w v ps) (hb : Below w.heap.size w w') : PoS w' v ps := by
  obtain ⟨ao, cap, rfl, h1, h2, h3⟩ := h
  refine ⟨ao, cap, rfl, h1, h2, fun hx => ?_⟩
  obtain ⟨b, o, rfl, hc⟩ := h3 hx
  exact ⟨b, o, rfl, fun i hi => ⟨(hb.cell (p := ⟨b, o + i * 2, none⟩) (cell_block_lt (hc i hi).1)).trans (hc i hi).1, (hb.cell (p := ⟨b, o + i * 2 + 1, none⟩) (cell_block_lt (hc i hi).2)).trans (hc i hi).2⟩⟩
theorem PoS.get {w : World} {ao : Option Addr} {n cap : Nat} {ps : List (Int × Nat × Nat)} (h : PoS w (.slice ao n cap) ps) {i : Nat} (hi : i < ps.length) :
    ∃ b o a x y, ao = some ⟨b, o, none⟩ ∧ w.cell? ⟨b, o + i * 2, none⟩ = some (.int .i64 a) ∧ w.cell? ⟨b, o + i * 2 + 1, none⟩ = some (.complex .f64 x y) ∧ Hid (ps.getD i (0, 0, 0) = (a, x, y)) := by
  obtain ⟨ao', cap', e, h1, h2, h3⟩ := h
  cases e
  obtain ⟨b, o, rfl, hc⟩ := h3 (by intro h; rw [h] at hi; simp at hi)
  exact ⟨b, o, _, _, _, rfl, (hc i hi).1, (hc i hi).2, rfl⟩
/-- A new block of postings. -/
theorem PoS.lit (w : World) (e : TypeId) (ps : List (Int × Nat × Nat)) (n : Nat) (hn : ps.length = n) (cs : Array Value) (hc : cs = (ps.flatMap fun p => [Value.int .i64 p.1, Value.complex .f64 p.2.1 p.2.2]).toArray) (hm : n ≤ maxLen) :
    PoS (w.alloc (.cells cs e)) (.slice (some ⟨w.heap.size, 0, none⟩) n n) ps := by
  subst hc
  subst hn
  have hB : Blk (w.alloc (.cells (ps.flatMap fun p => [Value.int .i64 p.1, Value.complex .f64 p.2.1 p.2.2]).toArray e)) w.heap.size e (ps.flatMap fun p => [Value.int .i64 p.1, Value.complex .f64 p.2.1 p.2.2]) := heap_alloc_new w _
  refine ⟨_, _, rfl, Nat.le_refl _, ⟨hm, fun h => by cases h⟩, fun _ => ⟨w.heap.size, 0, rfl, fun i hi => ?_⟩⟩
  have key : ∀ (ps : List (Int × Nat × Nat)) (i : Nat), i < ps.length → (ps.flatMap fun p => [Value.int .i64 p.1, Value.complex .f64 p.2.1 p.2.2])[i * 2]? = some (.int .i64 (ps.getD i (0, 0, 0)).1) ∧ (ps.flatMap fun p => [Value.int .i64 p.1, Value.complex .f64 p.2.1 p.2.2])[i * 2 + 1]? = some (.complex .f64 (ps.getD i (0, 0, 0)).2.1 (ps.getD i (0, 0, 0)).2.2) := by
    intro ps
    induction ps with
    | nil => intro i hi; simp at hi
    | cons p ps ih =>
      intro i hi
      cases i with
      | zero => simp
      | succ i =>
        have := ih i (by simpa using hi)
        rw [show (i + 1) * 2 = i * 2 + 1 + 1 by omega]
        simpa using this
  rw [hB.cell, hB.cell, show 0 + i * 2 = i * 2 by omega]
  exact key ps i hi

/-- Postings of whole amounts, as words. -/
def bitsP (l : List (Int × Nat × Nat)) : List (Int × Nat × Nat) := l.map fun p => (p.1, FlM.N p.2.1, FlM.N p.2.2)
/-- Debits and credits of those that are meant, on from sums. -/
def tot (f : Int → Bool) (d c : Nat) : List (Int × Nat × Nat) → Option (Nat × Nat)
  | [] => some (d, c)
  | p :: l => if (if f p.1 then d + p.2.1 else d) ≤ 1000000000000000 ∧ (if f p.1 then c + p.2.2 else c) ≤ 1000000000000000 then tot f (if f p.1 then d + p.2.1 else d) (if f p.1 then c + p.2.2 else c) l else none
/-- All parts are whole, and none is too great. -/
def okP (l : List (Int × Nat × Nat)) : Prop := ∀ p ∈ l, p.2.1 ≤ 1000000000000000 ∧ p.2.2 ≤ 1000000000000000
theorem part_N_no {k : Nat} (h : 1000000000000000 < k) (h2 : k < 9007199254740992) : FlM.part (FlM.N k) = none := by
  cases hp : FlM.part (FlM.N k) with
  | none => rfl
  | some n =>
    have h1 := (part_some hp).2.1
    rw [toInt_rep (read_N k h2)] at h1
    have h3 := (part_some hp).1
    have := Option.some.inj h1
    omega
theorem sum_bits (a b c d : Nat) (h1 : a + c < 9007199254740992) (h2 : b + d < 9007199254740992) : cSumBits .add .f64 (FlM.N a) (FlM.N b) (FlM.N c) (FlM.N d) = some (FlM.N (a + c), FlM.N (b + d)) := by
  unfold cSumBits
  have e1 : floatBits .add .f64 (FlM.N a) (FlM.N c) = some (FlM.N (a + c)) := add_N a c h1
  have e2 : floatBits .add .f64 (FlM.N b) (FlM.N d) = some (FlM.N (b + d)) := add_N b d h2
  rw [e1, e2]
  rfl
theorem bitsP_get {qs : List (Int × Nat × Nat)} {k : Nat} {a : Int} {x y : Nat} (h : (bitsP qs).getD k (0, 0, 0) = (a, x, y)) (hk : k < qs.length) (hok : okP qs) :
    ∃ px py, FlM.N px = x ∧ FlM.N py = y ∧ (px ≤ 1000000000000000 ∧ py ≤ 1000000000000000) ∧ qs.getD k (0, 0, 0) = (a, px, py) := by
  have h1 : (bitsP qs).getD k (0, 0, 0) = ((qs.getD k (0, 0, 0)).1, FlM.N (qs.getD k (0, 0, 0)).2.1, FlM.N (qs.getD k (0, 0, 0)).2.2) := by
    simp [bitsP, List.getD, hk]
  rw [h1] at h
  injection h with e1 e2
  injection e2 with e2 e3
  have hm : qs.getD k (0, 0, 0) ∈ qs := by simp [List.getD, hk]
  exact ⟨_, _, e2, e3, hok _ hm, by rw [← e1]⟩
theorem tot_step {f : Int → Bool} {d c : Nat} {qs : List (Int × Nat × Nat)} {k : Nat} {a : Int} {px py : Nat} (h : qs.getD k (0, 0, 0) = (a, px, py)) (hk : k < qs.length) :
    tot f d c (qs.drop k) = if (if f a then d + px else d) ≤ 1000000000000000 ∧ (if f a then c + py else c) ≤ 1000000000000000 then tot f (if f a then d + px else d) (if f a then c + py else c) (qs.drop (k + 1)) else none := by
  rw [List.drop_eq_getElem_cons hk]
  have e : qs[k] = (a, px, py) := by
    rw [← h]
    simp [List.getD, hk]
  rw [e]
  rfl
end Go.Proofs.Ytbiiejolemcifaa
