/- lombardhelp.Eight and wide.Put: numbers as eight bytes each, behind bytes that the caller owns. -/
import Derived.Test.YtdjfpbjlmojikaaBytes
import Derived.Test.YtdjfpbjlmojikaaAppend
namespace Go.Proofs.Ytdjfpbjlmojikaa
open Go.RowKit

theorem info_u8 : (Try.prog.info? 5).map (fun i => (i.zero, i.size, i.bytes)) = some (some (.int .u8 0), 1, 1) := by kernel_rfl

theorem grown_tr {w w1 w2 : World} {r r1 : Option Nat} (h : w.grownBy w1 r) (h1 : w1.grownBy w2 r1) (hr : r1 = none ∨ r1 = r ∨ ∃ g, r1 = some g ∧ w.heap.size ≤ g) : w.grownBy w2 r := by
  refine ⟨h1.os.trans h.os, h1.tape.trans h.tape, h1.output.trans h.output, Nat.le_trans h.size h1.size, fun k hk hne => ?_⟩
  rw [h1.block k (Nat.lt_of_lt_of_le hk h.size) ?_, h.block k hk hne]
  rcases hr with rfl | rfl | ⟨g, rfl, hg⟩
  · simp
  · exact hne
  · intro e; simp at e; omega
theorem grown_own {w w' : World} {base : Nat} {e : TypeId} {size n : Nat} {v : Value} {xs : List Value} (h : w.ownsRow base e size v n xs) (hg : w.grownBy w' v.ownBlock) (hb : base ≤ w.heap.size) : Below base w w' :=
  (Below.refl _ _).grown hg hb (fun k hk => (h.lt k hk).1)

set_option maxHeartbeats 400000 in
theorem eight_own (v : Int) (w : World) : Calls Try.prog 39 #[.int .i64 v] w (fun e w' => ∃ u, e = .returned u ∧ w'.ownsRow w.heap.size 5 1 u 8 ((be8 v).map (Value.int .u8)) ∧ Below w.heap.size w w') := by
  obtain ⟨i0, hi, hz0, hz1, hz2⟩ := info_parts info_u8
  go_enter Try.func39, Try.ntmps39
  go_wp2
  go_loopg [3, 4] 8 (fun g l i wr => ∃ n : Nat, n + g = 8 ∧ i = .int .i64 (7 - n) ∧ wr.ownsRow w.heap.size 5 1 l n (((be8 v).take n).map (Value.int .u8)) ∧ Below w.heap.size w wr)
  case atStart => exact ⟨0, by omega, rfl, World.ownsRow_nil _ _ _ _, Below.refl _ _⟩
  case round =>
    obtain ⟨n, hng, rfl, hown, hb⟩ := hrel
    cases gk with
    | zero =>
      have hlt : decide ((0 : Int) ≤ 7 - (n : Int)) = false := by simp; omega
      obtain rfl : n = 8 := by omega
      go_wp2
      go_ret
      exact ⟨_, rfl, hown, hb⟩
    | succ g =>
      have hlt : decide ((0 : Int) ≤ 7 - (n : Int)) = true := by simp; omega
      have hn0 : 0 ≤ 7 - (n : Int) := by omega
      have hn1 : 7 - (n : Int) ≤ 7 := by omega
      have hbs := hb.size
      have HQ : Hid (IntKind.u64.wrap v / 2 ^ (8 * (7 - n)) % 256 = byteAt v (56 - 8 * n)) := by
        show _ = _
        rw [← byteAt_u64 v (j := n) (by omega)]
        unfold byteAt
        rw [show 8 * (7 - n) = 56 - 8 * n from by omega]
      go_wp2_with (at_builtin; refine wpList_append_where _ rfl (.tmp 9) (.tmp 17) 38 rfl w.heap.size 5 i0 (.int .u8 0) 1 1 Try.underlying38 hi hz0 hz1 hz2 rfl (by decide) _ _ _ rfl (hown.alloc _) ⟨wr.heap.size, 0, none⟩ 1 1 [_] rfl rfl (cell_one_new _ _ _) (fun x hx => by simp at hx; subst hx; rfl) (by unfold maxLen; omega) (by omega) (by simp; omega) ?_; intro v1 w1 hown1 hg1 hbk1)
      have hb1 : Below w.heap.size w w1 := Below.grown (hb.alloc hbs _) hg1 (by simp; omega) (fun k hk => (hown.lt k hk).1)
      rw [HQ.out] at hown1
      have HT : Hid (w1.ownsRow w.heap.size 5 1 v1 (n + 1) (((be8 v).take (n + 1)).map (Value.int .u8))) := by
        rw [be8_take_succ v (by omega)]
        simpa [Hid] using hown1
      clear hown1 hg1 hbk1 hown
      go_wp2_with fail
      go_roundg g
      case measure => omega
      case rel => exact ⟨n + 1, by omega, by go_num, HT.out, hb1⟩
theorem eight_any (v : Int) (w : World) : Calls Try.prog 39 #[.int .i64 v] w (RetSl .u8 (be8 v) w) :=
  (eight_own v w).mono fun _ _ ⟨u, he, ho, hb⟩ => ⟨u, he, Sl.of_own ho rfl, hb⟩
/-- What Put answers: the bytes, and the numbers' behind them; it has written at most where the bytes lay, and in new blocks. -/
def PutR (base : Nat) (b : Value) (xs : List Int) (w : World) (e : Ending) (w' : World) : Prop :=
  ∃ u, e = .returned u ∧ w'.ownsRow base 5 1 u xs.length (xs.map (Value.int .u8)) ∧ w.grownBy w' b.ownBlock ∧ (u.ownBlock = b.ownBlock ∨ ∃ g, u.ownBlock = some g ∧ w.heap.size ≤ g)
/-- the bytes behind m numbers and j bytes of one more -/
def putAt (bs ls : List Int) (m : Nat) : List Int := bs ++ (ls.take m).flatMap be8
theorem putAt_length (bs ls : List Int) {m : Nat} (h : m ≤ ls.length) : (putAt bs ls m).length = bs.length + 8 * m := by
  have : ∀ l : List Int, (l.flatMap be8).length = 8 * l.length := by
    intro l
    induction l with
    | nil => rfl
    | cons x l ih => rw [List.flatMap_cons, List.length_append, ih, be8_length, List.length_cons]; omega
  rw [putAt, List.length_append, this, List.length_take]
  omega
theorem putAt_succ (bs ls : List Int) {m : Nat} (h : m < ls.length) : putAt bs ls (m + 1) = putAt bs ls m ++ be8 (ls.getD m 0) := by
  unfold putAt
  rw [List.take_succ_eq_append_getElem h, List.flatMap_append]
  simp [List.getD, h]

set_option maxHeartbeats 400000 in
theorem put_any (b l : Value) (bs ls : List Int) (base : Nat) (w : World) (hown : w.ownsRow base 5 1 b bs.length (bs.map (Value.int .u8))) (HL : Hid (∀ W, w.grownBy W b.ownBlock → Sl .i64 W l ls)) (hbase : base ≤ w.heap.size)
    (hn : bs.length + 8 * ls.length ≤ 100000) : Calls Try.prog 38 #[b, l] w (PutR base b (putAt bs ls ls.length) w) := by
  obtain ⟨i0, hi, hz0, hz1, hz2⟩ := info_parts info_u8
  have hl := HL.out w (World.grownBy.refl _ _)
  obtain ⟨ao, cap, rfl, h1, ⟨h2, _⟩, _⟩ := hl
  unfold maxLen at h2
  have HB := Lib.hid hbase
  obtain ⟨bb, hbb⟩ : ∃ q, q = b.ownBlock := ⟨_, rfl⟩
  rw [← hbb] at HL
  go_enter Try.func38, Try.ntmps38
  go_wp2
  go_loopg [0, 10] ls.length (fun g c i wr => ∃ m : Nat, m + g = ls.length ∧ i = .int .i64 m ∧ wr.ownsRow base 5 1 c (putAt bs ls m).length ((putAt bs ls m).map (Value.int .u8)) ∧ w.grownBy wr bb ∧ Hid (c.ownBlock = bb ∨ ∃ g, c.ownBlock = some g ∧ w.heap.size ≤ g))
  case atStart => exact ⟨0, by omega, rfl, by simpa [putAt] using hown, World.grownBy.refl _ _, .inl hbb.symm⟩
  case round =>
    obtain ⟨m, hmg, rfl, hown1, hg1, hwh⟩ := hrel
    cases gk with
    | zero =>
      have hlt : ¬ ((m : Int) < (ls.length : Int)) := by omega
      obtain rfl : m = ls.length := by omega
      have HO := Lib.hid hown1
      have HG := Lib.hid hg1
      clear hown1 hg1
      go_wp2
      go_ret
      exact ⟨_, rfl, HO.out, hbb ▸ HG.out, hbb ▸ hwh.out⟩
    | succ g =>
      have hlt : ((m : Int) < (ls.length : Int)) := by omega
      obtain ⟨gb, o, x, rfl, hcell, HX⟩ := (HL.out _ hg1).get (i := m) (by omega)
      have HLen := Lib.hid (putAt_length bs ls (m := m) (by omega))
      obtain ⟨wo, hwo⟩ : ∃ wo : World, wo = wr := ⟨_, rfl⟩
      subst hwo
      go_wp2_with fail
      go_loopg [0, 7] 8 (fun g c i wy => ∃ j : Nat, j + g = 8 ∧ i = .int .i64 (56 - 8 * j) ∧ wy.ownsRow base 5 1 c ((putAt bs ls m).length + j) ((putAt bs ls m ++ (be8 x).take j).map (Value.int .u8)) ∧ w.grownBy wy bb ∧ Hid (c.ownBlock = bb ∨ ∃ g, c.ownBlock = some g ∧ w.heap.size ≤ g))
      case atStart => exact ⟨0, by omega, rfl, by simpa using hown1, hg1, hwh⟩
      case round =>
        obtain ⟨j, hjg, rfl, hown2, hg2, hwh2⟩ := hrel
        cases gk with
        | zero =>
          have hlt : decide ((0 : Int) ≤ 56 - 8 * (j : Int)) = false := by simp; omega
          obtain rfl : j = 8 := by omega
          have HT : Hid (wr.ownsRow base 5 1 u0 (putAt bs ls (m + 1)).length ((putAt bs ls (m + 1)).map (Value.int .u8))) := by
            rw [putAt_succ bs ls (by omega), HX.out, List.length_append]
            exact hown2
          clear hown1 hown2
          go_wp2_with fail
          go_roundg g
          case measure => omega
          case rel => exact ⟨m + 1, by omega, by go_num, HT.out, hg2, hwh2⟩
        | succ g' =>
          have hlt : decide ((0 : Int) ≤ 56 - 8 * (j : Int)) = true := by simp; omega
          have hn0 : 0 ≤ 56 - 8 * (j : Int) := by omega
          have hn1 : 56 - 8 * (j : Int) ≤ 56 := by omega
          have hbs := hg2.size
          have hB2 := HB.out
          have hL2 := HLen.out
          have hb0 : bs.length + 8 * m + j + 1 ≤ 100000 := by omega
          have HQ : Hid (x / 2 ^ (56 - 8 * j) % 256 = byteAt x (56 - 8 * j)) := rfl
          rw [hL2] at hown2
          clear hL2
          go_wp2_with (at_builtin; refine wpList_append_where _ rfl (.tmp 18) (.tmp 23) 38 rfl base 5 i0 (.int .u8 0) 1 1 Try.underlying38 hi hz0 hz1 hz2 rfl (by decide) _ _ _ rfl (hown2.alloc _) ⟨wr.heap.size, 0, none⟩ 1 1 [_] rfl rfl (cell_one_new _ _ _) (fun x hx => by simp at hx; subst hx; rfl) (by unfold maxLen; omega) (by omega) (by simp; omega) ?_; intro v1 w1 hown3 hg3 hbk3)
          have hg4 : w.grownBy w1 bb := by
            refine grown_tr (grown_tr hg2 (World.grownBy_alloc _ _ none) (.inl rfl)) hg3 ?_
            rcases hwh2.out with h | h
            · exact .inr (.inl h)
            · exact .inr (.inr h)
          have hwh3 : Hid (v1.ownBlock = bb ∨ ∃ g, v1.ownBlock = some g ∧ w.heap.size ≤ g) := by
            rcases hbk3 with h | h
            · rw [h]; exact hwh2
            · exact .inr ⟨_, h, by simp; omega⟩
          have HT : Hid (w1.ownsRow base 5 1 v1 ((putAt bs ls m).length + (j + 1)) ((putAt bs ls m ++ (be8 x).take (j + 1)).map (Value.int .u8))) := by
            rw [be8_take_succ x (by omega), HLen.out, ← HQ.out]
            have e : bs.length + 8 * m + (j + 1) = bs.length + 8 * m + j + 1 := by omega
            rw [e]
            simpa [Hid] using hown3
          clear hown1 hown2 hown3 hg3 hbk3 hwh2
          go_roundg g'
          case measure => omega
          case rel => exact ⟨j + 1, by omega, by go_num, HT.out, hg4, hwh3⟩
/-- A literal in the newest block, in a later world. -/
theorem Sl.litG {k : IntKind} {w W : World} {e : TypeId} {cs : Array Value} {r : Option Nat} (xs : List Int) (n : Nat) {g : Nat} (hW : (w.alloc (.cells cs e)).grownBy W r) (hn : xs.length = n) (hc : cs = (xs.map (Value.int k)).toArray) (hm : n ≤ maxLen) (hg : w.heap.size = g) (hne : some g ≠ r) :
    Sl k W (.slice (some ⟨g, 0, none⟩) n n) xs := by
  subst hc hg
  obtain ⟨ao, cap, e, h1, h2, h3⟩ := Sl.lit (k := k) w e xs n hn _ rfl hm
  cases e
  refine ⟨_, _, rfl, h1, h2, fun hx => ?_⟩
  obtain ⟨b, o, e, hcell⟩ := h3 hx
  cases e
  exact ⟨_, _, rfl, fun i hi => hW.cell (hcell i hi) hne⟩
end Go.Proofs.Ytdjfpbjlmojikaa
