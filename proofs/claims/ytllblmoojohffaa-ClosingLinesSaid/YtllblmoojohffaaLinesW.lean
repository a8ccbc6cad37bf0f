/- ClosingLines: lines are the total; what was owed, and interest, less credit, is what is owed; the least that is due is never more. -/
import Derived.Test.YtllblmoojohffaaLinesJ
import Derived.Test.YtllblmoojohffaaRef11
import Derived.Test.YtllblmoojohffaaQuietBig
import Derived.Deep.QuietTactic
import Derived.BigQuiet
namespace Go.Proofs.Ytllblmoojohffaa
open Go.RowKit EvM

theorem u64_remL (x M : Int) (hM : 0 < M) (hM2 : M ≤ 1000000) : ∃ r : Nat, (IntKind.u64.wrap x).tmod M = (r : Int) ∧ (r : Int) < M ∧ wrap64 (r : Int) = r := by
  have h0 : 0 ≤ IntKind.u64.wrap x := by rw [IntKind.wrap_u64]; omega
  have h1 := Int.emod_nonneg (IntKind.u64.wrap x) (show M ≠ 0 by omega)
  have h2 := Int.emod_lt_of_pos (IntKind.u64.wrap x) hM
  obtain ⟨r, hr⟩ := Int.eq_ofNat_of_zero_le h1
  exact ⟨r, by rw [Int.tmod_eq_emod_of_nonneg h0]; exact hr, by omega, IntWalk.wrap64_in _ ⟨by omega, by omega⟩⟩
theorem two_in (w : World) (x y : Int) (c : Int) (e e2 : TypeId) : ∃ W, (w.alloc (.cells #[.int .i64 x, .int .i64 y] e)).alloc (.cells #[.slice (some ⟨w.heap.size, 0, none⟩) 2 2, .int .i64 c, .int .i64 0] e2) = W ∧ Hid (Sl .i64 W (.slice (some ⟨w.heap.size, 0, none⟩) 2 2) [x, y]) ∧ Hid (Blk W (w.heap.size + 1) e2 [.slice (some ⟨w.heap.size, 0, none⟩) 2 2, .int .i64 c, .int .i64 0]) ∧ Hid (Below w.heap.size w W) := by
  refine ⟨_, rfl, (Sl.litAt w e [x, y] 2 _ rfl _ rfl (by unfold maxLen; omega) rfl).alloc _, ?_, bl_al (bl_al (Below.refl _ _) _) _⟩
  have := heap_alloc_new (w.alloc (.cells #[.int .i64 x, .int .i64 y] e)) (.cells #[.slice (some ⟨w.heap.size, 0, none⟩) 2 2, .int .i64 c, .int .i64 0] e2)
  simpa [Blk, Hid] using this
/-- The statement of both lines, and the position. -/
def RetL (p : P5) (w : World) (e : Ending) (w' : World) : Prop :=
  ∃ al ql ab qb, e = .returned (.tuple #[.agg #[.int .i64 2, .int .i64 10988, .int .i64 11016, .int .i64 11036, .slice al 2 ql, .int .i64 p.T, .int .i64 p.C, .int .i64 p.M, .bool p.g], .agg #[.slice ab 2 qb, .int .i64 p.C, .int .i64 p.M], .int .i64 0]) ∧ LnS w' (.slice al 2 ql) [(p.x, p.I, 5), (p.y, p.K, 9)] ∧ Sl .i64 w' (.slice ab 2 qb) [p.x, p.y] ∧ (Fr w (.slice al 2 ql) ∧ Fr w (.slice ab 2 qb)) ∧ Below w.heap.size w w'
theorem RetL.of {p : P5} {w : World} {e : Ending} {w' : World} (h : RetCloseN 2 10988 11016 11036 (zip3 [p.x, p.y] [p.I, p.K] [5, 9]) p.T p.C p.M p.g [p.x, p.y] p.C p.M 0 w e w') : RetL p w e w' := by
  obtain ⟨lv, bv, h1, h2, h3, h4, h5⟩ := h
  obtain ⟨al, ql, rfl⟩ := h2.shape
  obtain ⟨ab, qb, rfl⟩ := h3.shape
  exact ⟨al, ql, ab, qb, h1, h2, h3, h4, h5⟩
theorem bl_scL {w w' : World} {a : Addr} (h : Below w.heap.size w w') (hg : w.heap.size ≤ a.block) (x : Value) : Below w.heap.size w (w'.setCell a x) := h.setCell hg _
theorem tupV_inj {p : P5} {a a' b b' : Option Addr} {q q' r r' : Nat} (h : tupV p a q b r = tupV p a' q' b' r') : (a = a' ∧ q = q') ∧ (b = b' ∧ r = r') := by
  simp [tupV, stmL, posL] at h
  exact h
theorem LnS.away {w : World} {a : Option Addr} {n q : Nat} {ls : List (Int × Int × Int)} (h : LnS w (.slice a n q) ls) (hne : ls ≠ []) : awayS a w.heap.size := by
  intro b o e
  obtain ⟨a', q', e1, _, _, h3⟩ := h
  cases e1
  obtain ⟨b', o', e2, hc⟩ := h3 hne
  rw [e] at e2
  cases e2
  have := cell_block_lt (hc 0 (List.length_pos_iff.2 hne)).1
  omega
theorem Sl.away {k : IntKind} {w : World} {a : Option Addr} {n q : Nat} {ls : List Int} (h : Sl k w (.slice a n q) ls) (hne : ls ≠ []) : awayS a w.heap.size := by
  intro b o e
  obtain ⟨a', q', e1, _, _, h3⟩ := h
  cases e1
  obtain ⟨b', o', e2, hc⟩ := h3 hne
  rw [e] at e2
  cases e2
  have := cell_block_lt (hc 0 (List.length_pos_iff.2 hne))
  omega
theorem fr_away {w : World} {a : Option Addr} {n q G : Nat} (h : Fr w (.slice a n q)) (hn : 0 < n) (hG : G < w.heap.size) : awayS a G := by
  intro b o e
  subst e
  have := h b o n q rfl hn
  omega
theorem nll {l : Array Bool} {i : Nat} (hs : l.size = 16) (hi : i < 16) (h : l.getD i true = false) : ¬ LL l i := by
  intro h2
  unfold LL at h2
  have : i < l.size := by omega
  simp [this] at h h2
  rw [h] at h2
  cases h2

set_option maxHeartbeats 6400000 in
set_option maxRecDepth 100000 in
theorem lines_yes (a b credit i k : Int) (g : Bool) (A B R I K : Int) (HBD : Hid ((0 ≤ A ∧ A < 10000) ∧ (0 ≤ B ∧ B < 10000) ∧ (0 ≤ R ∧ R < 1000) ∧ (0 ≤ I ∧ I < 1000) ∧ (0 ≤ K ∧ K < 1000))) (HZ : Hid (A + B = 0))
    (KA : Hid ((IntKind.u64.wrap a).tmod 10000 = A ∧ wrap64 A = A)) (KB : Hid ((IntKind.u64.wrap b).tmod 10000 = B ∧ wrap64 B = B)) (KR : Hid ((IntKind.u64.wrap credit).tmod 1000 = R ∧ wrap64 R = R)) (KI : Hid ((IntKind.u64.wrap i).tmod 1000 = I ∧ wrap64 I = I)) (KK : Hid ((IntKind.u64.wrap k).tmod 1000 = K ∧ wrap64 K = K)) (w : World) :
    Calls Try.prog 10 #[.int .i64 a, .int .i64 b, .int .i64 credit, .int .i64 i, .int .i64 k, .bool g] w (RetB (.bool true) w) := by
  obtain ⟨k1, k2⟩ := KA.out
  obtain ⟨k3, k4⟩ := KB.out
  go_enter Try.func10, Try.ntmps10
  go_wp2_with fail
  clear k1 k2 k3 k4
  obtain ⟨W1, hW1, S1, P1, B1⟩ := two_in w A B 0 2 46
  with_reducible rw [hW1]
  clear hW1
  obtain ⟨b1, o1, e1, hc0⟩ := S1.out.at (i := 0) (by simp)
  obtain ⟨b2, o2, e2, hc1⟩ := S1.out.at (i := 1) (by simp)
  cases e1
  cases e2
  simp only [List.getD_cons_zero, List.getD_cons_succ, Nat.add_zero, Nat.zero_add] at hc0 hc1
  have p0 := P1.out.cell 0
  have p1 := P1.out.cell 1
  have z1 := P1.out.frozen 1
  have pl := P1.out.lt
  simp only [List.getElem?_cons_zero, List.getElem?_cons_succ] at p0 p1
  have hab : IntKind.i64.wrap (A + B) = A + B := IntWalk.i64_in _ (by have := HBD.out; omega)
  have hab2 : wrap64 (A + B) = A + B := IntWalk.wrap64_in _ (by have := HBD.out; omega)
  have hz : (A + B == 0) = true := by have := HZ.out; simp; omega
  go_quiet (fail)
  clear hab hab2 hz
  obtain ⟨k1, k2⟩ := KR.out
  obtain ⟨k3, k4⟩ := KI.out
  obtain ⟨k5, k6⟩ := KK.out
  go_upto_region 5 with fail
  clear k1 k2 k3 k4 k5 k6
  obtain ⟨GP, hGP⟩ : ∃ G, w.heap.size + 1 = G := ⟨_, rfl⟩
  obtain ⟨GI, hGI⟩ : ∃ G, W1.heap.size = G := ⟨_, rfl⟩
  rw [hGP, hGI]
  obtain ⟨W0, hW0, PP, SA, SI, BW⟩ : ∃ W0, (((W1.drewN nq).setCell ⟨GP, 1, none⟩ (.int .i64 R)).alloc (.cells #[.int .i64 I, .int .i64 K] 2)) = W0 ∧ Hid (Blk W0 GP 46 [.slice (some ⟨w.heap.size, 0, none⟩) 2 2, .int .i64 R, .int .i64 0]) ∧ Hid (Sl .i64 W0 (.slice (some ⟨w.heap.size, 0, none⟩) 2 2) [A, B]) ∧ Hid (Sl .i64 W0 (.slice (some ⟨GI, 0, none⟩) 2 2) [I, K]) ∧ Hid (Below w.heap.size w W0) := by
    subst hGP
    have hP : Blk (W1.drewN nq) (w.heap.size + 1) 46 [.slice (some ⟨w.heap.size, 0, none⟩) 2 2, .int .i64 0, .int .i64 0] := P1.out
    have hS : Sl .i64 (W1.drewN nq) (.slice (some ⟨w.heap.size, 0, none⟩) 2 2) [A, B] := S1.out.below (bl_dN (Below.refl _ _) _)
    refine ⟨_, rfl, (hP.set 1 _).below (bl_al (Below.refl _ _) _), (hS.setCell (fun b o n c e h => by cases e; omega) _).alloc _, Sl.litAt _ _ [I, K] 2 _ rfl _ rfl (by unfold maxLen; omega) (by rw [World.size_setCell]; exact hGI), bl_al (bl_scL (a := ⟨w.heap.size + 1, 1, none⟩) (bl_dN B1.out _) (Nat.le_succ _) _) _⟩
  with_reducible rw [hW0]
  clear hW0 hGP hGI hc0 hc1 p0 p1 z1 pl S1 P1 B1
  obtain ⟨x, y, C, T, M, hf1, hf2, hf3, hf4, hf5, hf6, hf7, hf8, hf9, hf10⟩ := lines_facts (A := A) (B := B) (c := R) (I := I) (K := K) HBD.out.1 HBD.out.2.1 HBD.out.2.2.1 (.inr HZ.out) HBD.out.2.2.2.1 HBD.out.2.2.2.2
  have HF1 := Lib.hid hf1
  have HF2 := Lib.hid hf2
  have HF3 := Lib.hid hf3
  have HF4 := Lib.hid hf4
  have HF5 := Lib.hid (And.intro hf5 (And.intro hf6 (And.intro hf7 (And.intro hf8 (And.intro hf9 hf10)))))
  clear hf1 hf2 hf3 hf4 hf5 hf6 hf7 hf8 hf9 hf10
  have CL : Hid (∀ (v bv rv nv : Value) (W : World), TrS W v ts18 → Sl .i64 W bv [A, B] → Sl .i64 W rv [5, 9] → Sl .i64 W nv [I, K] → Calls Try.prog 27 #[.agg #[.int .i64 5000, v, .int .i64 1, .int .i64 20, .int .i64 25, .int .i64 20, .int .i64 10957], .int .i64 2, .agg #[.int .i64 10988, .int .i64 11016], .agg #[bv, .int .i64 R, .int .i64 0], rv, nv, .bool g] W (RetL (⟨W0, GP, w.heap.size, GI, R, g, x, y, I, K, T, C, M⟩ : P5) W)) :=
    fun v bv rv nv W h1 h2 h3 h4 => (close_yesN v ts18 5000 1 20 25 20 10957 2 10988 11016 bv [A, B] R 0 rv [5, 9] nv [I, K] g (by decide) right18 (show argsOk 2 2 10988 11016 2 2 = true by decide) (by decide) [x, y] C 0 HF1.out rfl rfl T HF2 M 0 HF3 11036 (by decide) (by decide) W h1 h2 h3 h4).mono fun _ _ h => RetL.of (p := (⟨W0, GP, w.heap.size, GI, R, g, x, y, I, K, T, C, M⟩ : P5)) h
  have ASA : Hid (∀ W, Below W0.heap.size W0 W → Sl .i64 W (.slice (some ⟨w.heap.size, 0, none⟩) 2 2) [A, B]) := fun W hW => SA.out.below hW
  have ASI : Hid (∀ W, Below W0.heap.size W0 W → Sl .i64 W (.slice (some ⟨GI, 0, none⟩) 2 2) [I, K]) := fun W hW => SI.out.below hW
  refine wp_region_inv (fun l ac w1 => ∃ s15 s16 s17 s53 s54 s55 s56 s57 s58 s59 s60 s61 s62 s63, ac = { tmps := #[.int .i64 a, .int .i64 b, .int .i64 credit, .int .i64 i, .int .i64 k, .bool g, undef, undef, undef, undef, undef, undef, .bool false, .pointer (some ⟨GP, 0, none⟩), .slice (some ⟨GI, 0, none⟩) 2 2, s15, s16, s17, undef, .int .i64 a, .int .u64 (IntKind.u64.wrap a), .int .u64 A, .int .i64 (wrap64 A), .int .i64 b, .int .u64 (IntKind.u64.wrap b), .int .u64 B, .int .i64 (wrap64 B), .slice (some ⟨w.heap.size, 0, none⟩) 2 2, .agg #[.slice (some ⟨w.heap.size, 0, none⟩) 2 2, .int .i64 0, .int .i64 0], .pointer (some ⟨GP, 0, none⟩), .slice (some ⟨w.heap.size, 0, none⟩) 2 2, .pointer (some ⟨w.heap.size, 0, none⟩), .int .i64 A, .pointer (some ⟨GP, 0, none⟩), .slice (some ⟨w.heap.size, 0, none⟩) 2 2, .pointer (some ⟨w.heap.size, 1, none⟩), .int .i64 B, .int .i64 (A + B), .bool true, .int .i64 credit, .int .u64 (IntKind.u64.wrap credit), .int .u64 R, .int .i64 (wrap64 R), .pointer (some ⟨GP, 1, none⟩), .int .i64 i, .int .u64 (IntKind.u64.wrap i), .int .u64 I, .int .i64 (wrap64 I), .int .i64 k, .int .u64 (IntKind.u64.wrap k), .int .u64 K, .int .i64 (wrap64 K), .slice (some ⟨GI, 0, none⟩) 2 2, s53, s54, s55, s56, s57, s58, s59, s60, s61, s62, s63, undef, undef, undef, undef, undef, undef, undef, undef, undef, undef, undef, undef, undef, undef, undef, undef, undef, undef, undef, undef, undef, undef, undef, undef, undef, undef, undef, undef, undef, undef, undef, undef, undef, undef, undef, undef, undef, undef, undef, undef, undef, undef, undef, undef, undef, undef, undef, undef, undef, undef, undef, undef, undef, undef, undef, undef, undef, undef, undef, undef, undef, undef, undef, undef, undef, undef, undef, undef, undef, undef, undef, undef, undef, undef, undef, undef, undef, undef, undef, undef, undef, undef, undef, undef, undef, undef, undef, undef, undef, undef, undef, undef, undef, undef, undef, undef, undef, undef, undef, undef, undef, undef, undef, undef, undef, undef, undef, undef, undef, undef, undef, undef, undef, undef, undef, undef, undef, undef, undef, undef, undef, undef, undef, undef, undef, undef, undef, undef, undef], defers := [] } ∧ J5 (⟨W0, GP, w.heap.size, GI, R, g, x, y, I, K, T, C, M⟩ : P5) l s15 s16 s17 s53 s54 s55 s56 s57 s58 s59 s60 s61 s62 s63 w1) (by kernel_rfl) (by kernel_rfl) ?start ?step ?fin
  case start =>
    have hf : ∀ j, LL (Array.replicate 16 false) j → False := fun j h => by
      unfold LL at h
      by_cases hj : j < 16
      · simp [hj] at h
      · simp [hj] at h
    refine ⟨undef, undef, undef, undef, undef, undef, undef, undef, undef, undef, undef, undef, undef, undef, rfl, ?_⟩
    exact {
      sz := rfl
      bel := bl_dr (Below.refl _ _)
      d6 := fun h => (hf _ h).elim
      d7 := fun h => (hf _ h).elim
      d8 := fun h => (hf _ h).elim
      d9 := fun h => (hf _ h).elim
      d10 := fun h => (hf _ h).elim
      d13 := fun h => (hf _ h).elim
      d14 := fun h => (hf _ h).elim
      t := fun h => (hf _ h).elim
      sp := fun h => (hf _ h).elim
      ps := fun h => (hf _ h).elim
      b := fun h => (hf _ h).elim
      m4 := fun h => (hf _ h).elim
      m5 := fun h => (hf _ h).elim
      a1 := fun h => (hf _ h).elim
      a2 := fun h => (hf _ h).elim
      c := fun h => (hf _ h).elim
      x15 := fun h => (hf _ h).elim
    }
  case step =>
    intro l a1 w1 hs hJ i1 o1 ho hu0 hd
    obtain ⟨s15, s16, s17, s53, s54, s55, s56, s57, s58, s59, s60, s61, s62, s63, rfl, h5⟩ := hJ
    have hi : i1 < 16 := (Array.getElem?_eq_some_iff.1 ho).1
    have hu : ¬ LL l i1 := nll hs hi hu0
    have hdep : ∀ j, (∃ e, e ∈ o1.after ∧ Region.binds .any e = true ∧ e.on = j) → LL l j := fun j ⟨e, h1, h2, h3⟩ => by subst h3; exact hd e h1 h2
    clear hd hu0 hs
    refine wpOp_step ho (fun K' hK => ?_)
    have HK := Lib.hid hK
    clear hK
    have hi16 : i1 = 0 ∨ i1 = 1 ∨ i1 = 2 ∨ i1 = 3 ∨ i1 = 4 ∨ i1 = 5 ∨ i1 = 6 ∨ i1 = 7 ∨ i1 = 8 ∨ i1 = 9 ∨ i1 = 10 ∨ i1 = 11 ∨ i1 = 12 ∨ i1 = 13 ∨ i1 = 14 ∨ i1 = 15 := by omega
    clear hi
    rcases hi16 with rfl | rfl | rfl | rfl | rfl | rfl | rfl | rfl | rfl | rfl | rfl | rfl | rfl | rfl | rfl | rfl
    all_goals (obtain rfl := Option.some.inj ho; clear ho)
    · -- 0
      go_simp
      refine (terms18_any _).mono ?_
      rintro e wT ⟨aT, qT, rfl, htT, hbT⟩
      go_wp2_with fail
      refine HK.out _ _ ⟨_, _, _, _, _, _, _, _, _, _, _, _, _, _, rfl, (h5.mono hbT).op0 hu aT qT htT⟩
    · -- 1
      go_simp
      refine HK.out _ _ ⟨_, _, _, _, _, _, _, _, _, _, _, _, _, _, rfl, h5.op1 hu⟩
    · -- 2
      have hP := PP.out.below (h5.bel)
      have c0 := hP.cell 0
      have c1 := hP.cell 1
      have c2 := hP.cell 2
      simp only [List.getElem?_cons_zero, List.getElem?_cons_succ] at c0 c1 c2
      go_simp
      refine HK.out _ _ ⟨_, _, _, _, _, _, _, _, _, _, _, _, _, _, rfl, h5.op2 hu⟩
    · -- 3
      go_simp
      refine HK.out _ _ ⟨_, _, _, _, _, _, _, _, _, _, _, _, _, _, rfl, (h5.mono (bl_al (Below.refl _ _) _)).op3 hu _ (Sl.lit _ _ [5, 9] 2 rfl _ rfl (by unfold maxLen; omega))⟩
    · -- 4
      go_simp
      refine HK.out _ _ ⟨_, _, _, _, _, _, _, _, _, _, _, _, _, _, rfl, h5.op4 hu⟩
    · -- 5
      go_simp
      refine HK.out _ _ ⟨_, _, _, _, _, _, _, _, _, _, _, _, _, _, rfl, h5.op5 hu⟩
    · -- 6
      have d0 : LL l 0 := hdep 0 ⟨⟨0, .data⟩, by simp, rfl, rfl⟩
      have d1 : LL l 1 := hdep 1 ⟨⟨1, .data⟩, by simp, rfl, rfl⟩
      have d2 : LL l 2 := hdep 2 ⟨⟨2, .data⟩, by simp, rfl, rfl⟩
      have d3 : LL l 3 := hdep 3 ⟨⟨3, .data⟩, by simp, rfl, rfl⟩
      have d4 : LL l 4 := hdep 4 ⟨⟨4, .data⟩, by simp, rfl, rfl⟩
      have d5 : LL l 5 := hdep 5 ⟨⟨5, .data⟩, by simp, rfl, rfl⟩
      obtain ⟨aT, qT, e54, ht⟩ := h5.t d0
      obtain ⟨GB, e57, hs9⟩ := h5.b d3
      have e55 := h5.sp d1
      have e56 := h5.ps d2
      have e58 := h5.m4 d4
      have e59 := h5.m5 d5
      unfold termV at e54
      dsimp only at e55 e56 e58 e59
      subst e54 e55 e56 e57 e58 e59
      have HT := Lib.hid (ht hu)
      have HS := Lib.hid (hs9 hu)
      have H5 := Lib.hid h5
      have H11 := Lib.hid h5.a1
      have H12 := Lib.hid h5.a2
      have H13 : Hid (¬ LL l 13) := fun h => hu (h5.d13 h).1
      have H14 : Hid (¬ LL l 14) := fun h => hu (h5.d13 (h5.d14 h)).1
      clear h5 ht hs9
      go_simp
      refine (CL.out _ _ _ _ _ HT.out (ASA.out _ H5.out.bel) HS.out (ASI.out _ H5.out.bel)).mono ?_
      rintro e wC ⟨al, ql, ab, qb, rfl, hln, hbv, ⟨hfl, hfb⟩, hbC⟩
      go_wp2_with fail
      refine HK.out _ _ ⟨_, _, _, _, _, _, _, _, _, _, _, _, _, _, rfl, (H5.out.mono hbC).op6 hu d0 d3 al ql ab qb hln hbv (fun h => ?_) (fun h => ?_)⟩
      · obtain ⟨G, e1, e2, e3⟩ := H11.out h
        have hlt := (e3 H13.out).lt
        exact ⟨G, e1, fr_away hfl (by omega) hlt, fr_away hfb (by omega) hlt⟩
      · obtain ⟨G, e1, e2, e3⟩ := H12.out h
        have hlt := (e3 H14.out).lt
        exact ⟨G, e1, fr_away hfl (by omega) hlt, fr_away hfb (by omega) hlt⟩
    · -- 7
      have d6 : LL l 6 := hdep 6 ⟨⟨6, .data⟩, by simp, rfl, rfl⟩
      go_simp
      refine HK.out _ _ ⟨_, _, _, _, _, _, _, _, _, _, _, _, _, _, rfl, h5.op7 hu d6⟩
    · -- 8
      have d7 : LL l 7 := hdep 7 ⟨⟨7, .data⟩, by simp, rfl, rfl⟩
      have d6 := h5.d7 d7
      obtain ⟨al, ql, ab, qb, -, -, -, e53, -⟩ := h5.c d6
      have e53 := e53 d7
      have HV : Hid (∀ al' ql' ab' qb', s53 = tupV (⟨W0, GP, w.heap.size, GI, R, g, x, y, I, K, T, C, M⟩ : P5) al' ql' ab' qb' → (al = al' ∧ ql = ql') ∧ (ab = ab' ∧ qb = qb')) := fun al' ql' ab' qb' h => tupV_inj (e53.symm.trans h)
      unfold tupV stmL posL at e53
      dsimp only at e53
      subst e53
      go_simp
      refine HK.out _ _ ⟨_, _, _, _, _, _, _, _, _, _, _, _, _, _, rfl, h5.op8 hu d7 _ (fun al' ql' ab' qb' h => by obtain ⟨⟨rfl, rfl⟩, rfl, rfl⟩ := HV.out _ _ _ _ h; rfl)⟩
    · -- 9
      have d7 : LL l 7 := hdep 7 ⟨⟨7, .data⟩, by simp, rfl, rfl⟩
      have d6 := h5.d7 d7
      obtain ⟨al, ql, ab, qb, -, -, -, e53, -⟩ := h5.c d6
      have e53 := e53 d7
      have HV : Hid (∀ al' ql' ab' qb', s53 = tupV (⟨W0, GP, w.heap.size, GI, R, g, x, y, I, K, T, C, M⟩ : P5) al' ql' ab' qb' → (al = al' ∧ ql = ql') ∧ (ab = ab' ∧ qb = qb')) := fun al' ql' ab' qb' h => tupV_inj (e53.symm.trans h)
      unfold tupV stmL posL at e53
      dsimp only at e53
      subst e53
      go_simp
      refine HK.out _ _ ⟨_, _, _, _, _, _, _, _, _, _, _, _, _, _, rfl, h5.op9 hu d7 _ (fun al' ql' ab' qb' h => by obtain ⟨⟨rfl, rfl⟩, rfl, rfl⟩ := HV.out _ _ _ _ h; rfl)⟩
    · -- 10
      have d7 : LL l 7 := hdep 7 ⟨⟨7, .data⟩, by simp, rfl, rfl⟩
      have d6 := h5.d7 d7
      obtain ⟨al, ql, ab, qb, -, -, -, e53, -⟩ := h5.c d6
      have e53 := e53 d7
      have HV : Hid (∀ al' ql' ab' qb', s53 = tupV (⟨W0, GP, w.heap.size, GI, R, g, x, y, I, K, T, C, M⟩ : P5) al' ql' ab' qb' → (al = al' ∧ ql = ql') ∧ (ab = ab' ∧ qb = qb')) := fun al' ql' ab' qb' h => tupV_inj (e53.symm.trans h)
      unfold tupV stmL posL at e53
      dsimp only at e53
      subst e53
      go_simp
      refine HK.out _ _ ⟨_, _, _, _, _, _, _, _, _, _, _, _, _, _, rfl, h5.op10 hu d7 _ (fun al' ql' ab' qb' h => rfl)⟩
    · -- 11
      go_simp
      refine HK.out _ _ ⟨_, _, _, _, _, _, _, _, _, _, _, _, _, _, rfl, (h5.mono (bl_al (Below.refl _ _) _)).op11 hu _ h5.bel.size (heap_alloc_new _ _) (fun h al ql ab qb e => by obtain ⟨al', ql', ab', qb', e1, e2, e3, _⟩ := h5.c h; obtain ⟨⟨rfl, rfl⟩, rfl, rfl⟩ := tupV_inj (e.symm.trans e1); exact ⟨e2.away (List.cons_ne_nil _ _), e3.away (List.cons_ne_nil _ _)⟩)⟩
    · -- 12
      go_simp
      refine HK.out _ _ ⟨_, _, _, _, _, _, _, _, _, _, _, _, _, _, rfl, (h5.mono (bl_al (Below.refl _ _) _)).op12 hu _ h5.bel.size (heap_alloc_new _ _) (fun h al ql ab qb e => by obtain ⟨al', ql', ab', qb', e1, e2, e3, _⟩ := h5.c h; obtain ⟨⟨rfl, rfl⟩, rfl, rfl⟩ := tupV_inj (e.symm.trans e1); exact ⟨e2.away (List.cons_ne_nil _ _), e3.away (List.cons_ne_nil _ _)⟩)⟩
    · -- 13
      have d6 : LL l 6 := hdep 6 ⟨⟨6, .phase⟩, by simp, rfl, rfl⟩
      have d8 : LL l 8 := hdep 8 ⟨⟨8, .phase⟩, by simp, rfl, rfl⟩
      have d11 : LL l 11 := hdep 11 ⟨⟨11, .phase⟩, by simp, rfl, rfl⟩
      have d12 : LL l 12 := hdep 12 ⟨⟨12, .phase⟩, by simp, rfl, rfl⟩
      obtain ⟨G, al, ql, e1, e2, hb, hJ⟩ := h5.s13 hu d6 d8 d11 d12
      unfold ptrV at e1
      unfold stmL at e2
      dsimp only at e2 hJ
      subst e1 e2
      have c0 := hb.cell 0
      have f0 := hb.frozen 0
      have c1 := hb.cell 1
      have f1 := hb.frozen 1
      have c2 := hb.cell 2
      have f2 := hb.frozen 2
      have c3 := hb.cell 3
      have f3 := hb.frozen 3
      have c4 := hb.cell 4
      have f4 := hb.frozen 4
      have c5 := hb.cell 5
      have f5 := hb.frozen 5
      have c6 := hb.cell 6
      have f6 := hb.frozen 6
      have c7 := hb.cell 7
      have f7 := hb.frozen 7
      have c8 := hb.cell 8
      have f8 := hb.frozen 8
      have hlt := hb.lt
      simp only [z9, List.getElem?_cons_zero, List.getElem?_cons_succ] at c0 c1 c2 c3 c4 c5 c6 c7 c8
      have HJ := Lib.hid hJ
      clear hJ hb h5
      go_simp
      refine HK.out _ _ ⟨_, _, _, _, _, _, _, _, _, _, _, _, _, _, rfl, HJ.out⟩
    · -- 14
      have d13 : LL l 13 := hdep 13 ⟨⟨13, .phase⟩, by simp, rfl, rfl⟩
      have d9 : LL l 9 := hdep 9 ⟨⟨9, .phase⟩, by simp, rfl, rfl⟩
      obtain ⟨G, ab, qb, e1, e2, hb, hJ⟩ := h5.s14 hu d13 d9
      unfold ptrV at e1
      unfold posL at e2
      dsimp only at e2 hJ
      subst e1 e2
      have c0 := hb.cell 0
      have f0 := hb.frozen 0
      have c1 := hb.cell 1
      have f1 := hb.frozen 1
      have c2 := hb.cell 2
      have f2 := hb.frozen 2
      have hlt := hb.lt
      simp only [z3, List.getElem?_cons_zero, List.getElem?_cons_succ] at c0 c1 c2
      have HJ := Lib.hid hJ
      clear hJ hb h5
      go_simp
      refine HK.out _ _ ⟨_, _, _, _, _, _, _, _, _, _, _, _, _, _, rfl, HJ.out⟩
    · -- 15
      have d10 : LL l 10 := hdep 10 ⟨⟨10, .data⟩, by simp, rfl, rfl⟩
      have d6 := h5.d7 (h5.d10 d10)
      obtain ⟨al, ql, ab, qb, -, -, -, -, -, -, e63, -⟩ := h5.c d6
      have e63 := e63 d10
      subst e63
      go_simp
      refine HK.out _ _ ⟨_, _, _, _, _, _, _, _, _, _, _, _, _, _, rfl, h5.op15 hu d10⟩
  case fin =>
    intro l a1 w1 hs hall hJ
    obtain ⟨s15, s16, s17, s53, s54, s55, s56, s57, s58, s59, s60, s61, s62, s63, rfl, h5⟩ := hJ
    have d6 := hall 6 (by decide)
    obtain ⟨al, ql, ab, qb, -, hln, hbv, -, -, -, -, e8, e9⟩ := h5.c d6
    obtain ⟨G15, e15, -, -, hb15⟩ := e8 (hall 11 (by decide))
    obtain ⟨G16, e16, -, -, hb16⟩ := e9 (hall 12 (by decide))
    have hb15 := hb15 (hall 13 (by decide))
    have hb16 := hb16 (hall 14 (by decide))
    have e17 := h5.x15 (hall 15 (by decide))
    have hbw := bl_tr BW.out h5.bel
    unfold ptrV at e15 e16
    subst e15 e16 e17
    have HLN := Lib.hid hln
    have HBV := Lib.hid hbv
    have HB15 : Hid (Blk w1 G15 51 [.int .i64 2, .int .i64 10988, .int .i64 11016, .int .i64 11036, .slice al 2 ql, .int .i64 T, .int .i64 C, .int .i64 M, .bool g]) := hb15
    have HB16 : Hid (Blk w1 G16 46 [.slice ab 2 qb, .int .i64 C, .int .i64 M]) := hb16
    have HBP := Lib.hid (PP.out.below h5.bel)
    have HSA := Lib.hid (SA.out.below h5.bel)
    have HSI := Lib.hid (SI.out.below h5.bel)
    have HBW := Lib.hid hbw
    clear hln hbv hb15 hb16 h5 hbw e8 e9 hall hs d6 CL ASA ASI PP SA SI BW
    go_wp2_with fail
    refine (awake18_any _).mono ?_
    rintro _ w2 ⟨rfl, hb2⟩
    have KLN := Lib.hid (HLN.out.below hb2)
    have KBV := Lib.hid (HBV.out.below hb2)
    have K15 := Lib.hid (HB15.out.below hb2)
    have K16 := Lib.hid (HB16.out.below hb2)
    have KBP := Lib.hid (HBP.out.below hb2)
    have KSA := Lib.hid (HSA.out.below hb2)
    have KSI := Lib.hid (HSI.out.below hb2)
    have KBW := Lib.hid (bl_tr HBW.out hb2)
    clear hb2 HLN HBV HB15 HB16 HBP HSA HSI HBW
    have t4 := K15.out.cell 4
    have q0 := K16.out.cell 0
    have q1 := K16.out.cell 1
    have q2 := K16.out.cell 2
    simp only [List.getElem?_cons_zero, List.getElem?_cons_succ] at t4 q0 q1 q2
    go_wp2_with fail
    refine (refRight11_any _ [x, y] C M true HF4 _ KBV.out).mono ?_
    rintro _ w3 ⟨rfl, hb3⟩
    have JLN := KLN.out.below hb3
    have JBV := KBV.out.below hb3
    have J15 := K15.out.below hb3
    have J16 := K16.out.below hb3
    have JBP := KBP.out.below hb3
    have JSA := KSA.out.below hb3
    have JSI := KSI.out.below hb3
    have HBE := Lib.hid (bl_tr KBW.out hb3)
    clear hb3 t4 q0 q1 q2
    have t2 := J15.cell 3
    have t4 := J15.cell 4
    have t5 := J15.cell 5
    have t6 := J15.cell 6
    have t7 := J15.cell 7
    have t8 := J15.cell 8
    have q0 := J16.cell 0
    have q1 := J16.cell 1
    have q2 := J16.cell 2
    have p0 := JBP.cell 0
    have p1 := JBP.cell 1
    simp only [List.getElem?_cons_zero, List.getElem?_cons_succ] at t2 t4 t5 t6 t7 t8 q0 q1 q2 p0 p1
    obtain ⟨_, _, ela, _, _, hlc⟩ := JLN
    injection ela with ela1 ela2 ela3
    subst ela1 ela3
    obtain ⟨bl, ol, rfl, hlq⟩ := hlc (by simp)
    obtain ⟨l00, l01, l02⟩ := hlq 0 (by simp)
    obtain ⟨l10, l11, l12⟩ := hlq 1 (by simp)
    obtain ⟨bb, ob, ebb, b0⟩ := JBV.at (i := 0) (by simp)
    obtain ⟨_, _, ebb2, b1⟩ := JBV.at (i := 1) (by simp)
    subst ebb
    cases ebb2
    obtain ⟨_, _, ea1, a0⟩ := JSA.at (i := 0) (by simp)
    obtain ⟨_, _, ea2, a1⟩ := JSA.at (i := 1) (by simp)
    cases ea1
    cases ea2
    obtain ⟨_, _, ei1, i0⟩ := JSI.at (i := 0) (by simp)
    obtain ⟨_, _, ei2, i1⟩ := JSI.at (i := 1) (by simp)
    cases ei1
    cases ei2
    simp only [List.getD_cons_zero, List.getD_cons_succ, Nat.add_zero, Nat.zero_add, Nat.zero_mul, Nat.one_mul] at l00 l01 l02 l10 l11 l12 b0 b1 a0 a1 i0 i1
    obtain ⟨hf5, hf6, hf7, hf8, hf9, hf10, hf11⟩ := HF5.out
    have hbd := HBD.out
    have wA : IntKind.i64.wrap (A + B) = A + B := IntWalk.i64_in _ (by omega)
    have wC : IntKind.i64.wrap (A + B - R) = A + B - R := IntWalk.i64_in _ (by omega)
    have wI : IntKind.i64.wrap (A + B - R + I) = A + B - R + I := IntWalk.i64_in _ (by omega)
    have wK : IntKind.i64.wrap (A + B - R + I + K) = A + B - R + I + K := IntWalk.i64_in _ (by omega)
    have wx : IntKind.i64.wrap (x + y) = x + y := IntWalk.i64_in _ (by omega)
    have wT : IntKind.i64.wrap (T - C) = T - C := IntWalk.i64_in _ (by omega)
    have u1 : (x + y == T) = true := by simp; omega
    have u2 : (T - C == A + B - R + I + K) = true := by simp; omega
    have u3 : decide (M ≤ T) = true := by simp; omega
    clear hf5 hf6 hf7 hf8 hf9 hf10 hf11 hbd KLN KBV K15 K16 KBP KSA KSI J15 J16 JBP JBV JSA JSI
    go_wp2_with fail
    go_quiet (fail)
    go_wp2_with fail
    simp only [List.append_eq, List.cons_append, List.nil_append]
    refine wp_region_quiet_cheap (by kernel_rfl) (by kernel_rfl) (by kernel_rfl) ?_
    repeat (go_big_quiet_step (fail))
    refine wpQuiet_nil ?_
    intro _ hw'
    obtain ⟨nq2, hw''⟩ := hw'
    subst hw''
    go_wp2
    go_ret
    exact ⟨rfl, bdN (bdN HBE.out _) _⟩

set_option maxHeartbeats 6400000 in
set_option maxRecDepth 100000 in
theorem lines_no (a b credit i k : Int) (g : Bool) (A B R I K : Int) (HBD : Hid ((0 ≤ A ∧ A < 10000) ∧ (0 ≤ B ∧ B < 10000) ∧ (0 ≤ R ∧ R < 1000) ∧ (0 ≤ I ∧ I < 1000) ∧ (0 ≤ K ∧ K < 1000))) (HZ : Hid (¬ A + B = 0))
    (KA : Hid ((IntKind.u64.wrap a).tmod 10000 = A ∧ wrap64 A = A)) (KB : Hid ((IntKind.u64.wrap b).tmod 10000 = B ∧ wrap64 B = B)) (KR : Hid ((IntKind.u64.wrap credit).tmod 1000 = R ∧ wrap64 R = R)) (KI : Hid ((IntKind.u64.wrap i).tmod 1000 = I ∧ wrap64 I = I)) (KK : Hid ((IntKind.u64.wrap k).tmod 1000 = K ∧ wrap64 K = K)) (w : World) :
    Calls Try.prog 10 #[.int .i64 a, .int .i64 b, .int .i64 credit, .int .i64 i, .int .i64 k, .bool g] w (RetB (.bool true) w) := by
  obtain ⟨k1, k2⟩ := KA.out
  obtain ⟨k3, k4⟩ := KB.out
  go_enter Try.func10, Try.ntmps10
  go_wp2_with fail
  clear k1 k2 k3 k4
  obtain ⟨W1, hW1, S1, P1, B1⟩ := two_in w A B 0 2 46
  with_reducible rw [hW1]
  clear hW1
  obtain ⟨b1, o1, e1, hc0⟩ := S1.out.at (i := 0) (by simp)
  obtain ⟨b2, o2, e2, hc1⟩ := S1.out.at (i := 1) (by simp)
  cases e1
  cases e2
  simp only [List.getD_cons_zero, List.getD_cons_succ, Nat.add_zero, Nat.zero_add] at hc0 hc1
  have p0 := P1.out.cell 0
  have p1 := P1.out.cell 1
  have z1 := P1.out.frozen 1
  have pl := P1.out.lt
  simp only [List.getElem?_cons_zero, List.getElem?_cons_succ] at p0 p1
  have hab : IntKind.i64.wrap (A + B) = A + B := IntWalk.i64_in _ (by have := HBD.out; omega)
  have hab2 : wrap64 (A + B) = A + B := IntWalk.wrap64_in _ (by have := HBD.out; omega)
  have hz : (A + B == 0) = false := by have := HZ.out; simp; omega
  go_quiet (fail)
  clear hab hab2 hz
  obtain ⟨k1, k2⟩ := KR.out
  obtain ⟨k3, k4⟩ := KI.out
  obtain ⟨k5, k6⟩ := KK.out
  go_upto_region 5 with fail
  clear k1 k2 k3 k4 k5 k6
  obtain ⟨GP, hGP⟩ : ∃ G, w.heap.size + 1 = G := ⟨_, rfl⟩
  obtain ⟨GI, hGI⟩ : ∃ G, W1.heap.size = G := ⟨_, rfl⟩
  rw [hGP, hGI]
  obtain ⟨W0, hW0, PP, SA, SI, BW⟩ : ∃ W0, ((W1.drewN nq).alloc (.cells #[.int .i64 I, .int .i64 K] 2)) = W0 ∧ Hid (Blk W0 GP 46 [.slice (some ⟨w.heap.size, 0, none⟩) 2 2, .int .i64 0, .int .i64 0]) ∧ Hid (Sl .i64 W0 (.slice (some ⟨w.heap.size, 0, none⟩) 2 2) [A, B]) ∧ Hid (Sl .i64 W0 (.slice (some ⟨GI, 0, none⟩) 2 2) [I, K]) ∧ Hid (Below w.heap.size w W0) := by
    subst hGP
    have hP : Blk (W1.drewN nq) (w.heap.size + 1) 46 [.slice (some ⟨w.heap.size, 0, none⟩) 2 2, .int .i64 0, .int .i64 0] := P1.out
    have hS : Sl .i64 (W1.drewN nq) (.slice (some ⟨w.heap.size, 0, none⟩) 2 2) [A, B] := S1.out.below (bl_dN (Below.refl _ _) _)
    exact ⟨_, rfl, hP.below (bl_al (Below.refl _ _) _), hS.alloc _, Sl.litAt _ _ [I, K] 2 _ rfl _ rfl (by unfold maxLen; omega) hGI, bl_al (bl_dN B1.out _) _⟩
  with_reducible rw [hW0]
  clear hW0 hGP hGI hc0 hc1 p0 p1 z1 pl S1 P1 B1
  obtain ⟨x, y, C, T, M, hf1, hf2, hf3, hf4, hf5, hf6, hf7, hf8, hf9, hf10⟩ := lines_facts (A := A) (B := B) (c := 0) (I := I) (K := K) HBD.out.1 HBD.out.2.1 (by omega) (.inl rfl) HBD.out.2.2.2.1 HBD.out.2.2.2.2
  have HF1 := Lib.hid hf1
  have HF2 := Lib.hid hf2
  have HF3 := Lib.hid hf3
  have HF4 := Lib.hid hf4
  have HF5 := Lib.hid (And.intro hf5 (And.intro hf6 (And.intro hf7 (And.intro hf8 (And.intro hf9 hf10)))))
  clear hf1 hf2 hf3 hf4 hf5 hf6 hf7 hf8 hf9 hf10
  have CL : Hid (∀ (v bv rv nv : Value) (W : World), TrS W v ts18 → Sl .i64 W bv [A, B] → Sl .i64 W rv [5, 9] → Sl .i64 W nv [I, K] → Calls Try.prog 27 #[.agg #[.int .i64 5000, v, .int .i64 1, .int .i64 20, .int .i64 25, .int .i64 20, .int .i64 10957], .int .i64 2, .agg #[.int .i64 10988, .int .i64 11016], .agg #[bv, .int .i64 0, .int .i64 0], rv, nv, .bool g] W (RetL (⟨W0, GP, w.heap.size, GI, 0, g, x, y, I, K, T, C, M⟩ : P5) W)) :=
    fun v bv rv nv W h1 h2 h3 h4 => (close_yesN v ts18 5000 1 20 25 20 10957 2 10988 11016 bv [A, B] 0 0 rv [5, 9] nv [I, K] g (by decide) right18 (show argsOk 2 2 10988 11016 2 2 = true by decide) (by decide) [x, y] C 0 HF1.out rfl rfl T HF2 M 0 HF3 11036 (by decide) (by decide) W h1 h2 h3 h4).mono fun _ _ h => RetL.of (p := (⟨W0, GP, w.heap.size, GI, 0, g, x, y, I, K, T, C, M⟩ : P5)) h
  have ASA : Hid (∀ W, Below W0.heap.size W0 W → Sl .i64 W (.slice (some ⟨w.heap.size, 0, none⟩) 2 2) [A, B]) := fun W hW => SA.out.below hW
  have ASI : Hid (∀ W, Below W0.heap.size W0 W → Sl .i64 W (.slice (some ⟨GI, 0, none⟩) 2 2) [I, K]) := fun W hW => SI.out.below hW
  refine wp_region_inv (fun l ac w1 => ∃ s15 s16 s17 s53 s54 s55 s56 s57 s58 s59 s60 s61 s62 s63, ac = { tmps := #[.int .i64 a, .int .i64 b, .int .i64 credit, .int .i64 i, .int .i64 k, .bool g, undef, undef, undef, undef, undef, undef, .bool false, .pointer (some ⟨GP, 0, none⟩), .slice (some ⟨GI, 0, none⟩) 2 2, s15, s16, s17, undef, .int .i64 a, .int .u64 (IntKind.u64.wrap a), .int .u64 A, .int .i64 (wrap64 A), .int .i64 b, .int .u64 (IntKind.u64.wrap b), .int .u64 B, .int .i64 (wrap64 B), .slice (some ⟨w.heap.size, 0, none⟩) 2 2, .agg #[.slice (some ⟨w.heap.size, 0, none⟩) 2 2, .int .i64 0, .int .i64 0], .pointer (some ⟨GP, 0, none⟩), .slice (some ⟨w.heap.size, 0, none⟩) 2 2, .pointer (some ⟨w.heap.size, 0, none⟩), .int .i64 A, .pointer (some ⟨GP, 0, none⟩), .slice (some ⟨w.heap.size, 0, none⟩) 2 2, .pointer (some ⟨w.heap.size, 1, none⟩), .int .i64 B, .int .i64 (A + B), .bool false, undef, undef, undef, undef, undef, .int .i64 i, .int .u64 (IntKind.u64.wrap i), .int .u64 I, .int .i64 (wrap64 I), .int .i64 k, .int .u64 (IntKind.u64.wrap k), .int .u64 K, .int .i64 (wrap64 K), .slice (some ⟨GI, 0, none⟩) 2 2, s53, s54, s55, s56, s57, s58, s59, s60, s61, s62, s63, undef, undef, undef, undef, undef, undef, undef, undef, undef, undef, undef, undef, undef, undef, undef, undef, undef, undef, undef, undef, undef, undef, undef, undef, undef, undef, undef, undef, undef, undef, undef, undef, undef, undef, undef, undef, undef, undef, undef, undef, undef, undef, undef, undef, undef, undef, undef, undef, undef, undef, undef, undef, undef, undef, undef, undef, undef, undef, undef, undef, undef, undef, undef, undef, undef, undef, undef, undef, undef, undef, undef, undef, undef, undef, undef, undef, undef, undef, undef, undef, undef, undef, undef, undef, undef, undef, undef, undef, undef, undef, undef, undef, undef, undef, undef, undef, undef, undef, undef, undef, undef, undef, undef, undef, undef, undef, undef, undef, undef, undef, undef, undef, undef, undef, undef, undef, undef, undef, undef, undef, undef, undef, undef, undef, undef, undef, undef, undef, undef], defers := [] } ∧ J5 (⟨W0, GP, w.heap.size, GI, 0, g, x, y, I, K, T, C, M⟩ : P5) l s15 s16 s17 s53 s54 s55 s56 s57 s58 s59 s60 s61 s62 s63 w1) (by kernel_rfl) (by kernel_rfl) ?start ?step ?fin
  case start =>
    have hf : ∀ j, LL (Array.replicate 16 false) j → False := fun j h => by
      unfold LL at h
      by_cases hj : j < 16
      · simp [hj] at h
      · simp [hj] at h
    refine ⟨undef, undef, undef, undef, undef, undef, undef, undef, undef, undef, undef, undef, undef, undef, rfl, ?_⟩
    exact {
      sz := rfl
      bel := bl_dr (Below.refl _ _)
      d6 := fun h => (hf _ h).elim
      d7 := fun h => (hf _ h).elim
      d8 := fun h => (hf _ h).elim
      d9 := fun h => (hf _ h).elim
      d10 := fun h => (hf _ h).elim
      d13 := fun h => (hf _ h).elim
      d14 := fun h => (hf _ h).elim
      t := fun h => (hf _ h).elim
      sp := fun h => (hf _ h).elim
      ps := fun h => (hf _ h).elim
      b := fun h => (hf _ h).elim
      m4 := fun h => (hf _ h).elim
      m5 := fun h => (hf _ h).elim
      a1 := fun h => (hf _ h).elim
      a2 := fun h => (hf _ h).elim
      c := fun h => (hf _ h).elim
      x15 := fun h => (hf _ h).elim
    }
  case step =>
    intro l a1 w1 hs hJ i1 o1 ho hu0 hd
    obtain ⟨s15, s16, s17, s53, s54, s55, s56, s57, s58, s59, s60, s61, s62, s63, rfl, h5⟩ := hJ
    have hi : i1 < 16 := (Array.getElem?_eq_some_iff.1 ho).1
    have hu : ¬ LL l i1 := nll hs hi hu0
    have hdep : ∀ j, (∃ e, e ∈ o1.after ∧ Region.binds .any e = true ∧ e.on = j) → LL l j := fun j ⟨e, h1, h2, h3⟩ => by subst h3; exact hd e h1 h2
    clear hd hu0 hs
    refine wpOp_step ho (fun K' hK => ?_)
    have HK := Lib.hid hK
    clear hK
    have hi16 : i1 = 0 ∨ i1 = 1 ∨ i1 = 2 ∨ i1 = 3 ∨ i1 = 4 ∨ i1 = 5 ∨ i1 = 6 ∨ i1 = 7 ∨ i1 = 8 ∨ i1 = 9 ∨ i1 = 10 ∨ i1 = 11 ∨ i1 = 12 ∨ i1 = 13 ∨ i1 = 14 ∨ i1 = 15 := by omega
    clear hi
    rcases hi16 with rfl | rfl | rfl | rfl | rfl | rfl | rfl | rfl | rfl | rfl | rfl | rfl | rfl | rfl | rfl | rfl
    all_goals (obtain rfl := Option.some.inj ho; clear ho)
    · -- 0
      go_simp
      refine (terms18_any _).mono ?_
      rintro e wT ⟨aT, qT, rfl, htT, hbT⟩
      go_wp2_with fail
      refine HK.out _ _ ⟨_, _, _, _, _, _, _, _, _, _, _, _, _, _, rfl, (h5.mono hbT).op0 hu aT qT htT⟩
    · -- 1
      go_simp
      refine HK.out _ _ ⟨_, _, _, _, _, _, _, _, _, _, _, _, _, _, rfl, h5.op1 hu⟩
    · -- 2
      have hP := PP.out.below (h5.bel)
      have c0 := hP.cell 0
      have c1 := hP.cell 1
      have c2 := hP.cell 2
      simp only [List.getElem?_cons_zero, List.getElem?_cons_succ] at c0 c1 c2
      go_simp
      refine HK.out _ _ ⟨_, _, _, _, _, _, _, _, _, _, _, _, _, _, rfl, h5.op2 hu⟩
    · -- 3
      go_simp
      refine HK.out _ _ ⟨_, _, _, _, _, _, _, _, _, _, _, _, _, _, rfl, (h5.mono (bl_al (Below.refl _ _) _)).op3 hu _ (Sl.lit _ _ [5, 9] 2 rfl _ rfl (by unfold maxLen; omega))⟩
    · -- 4
      go_simp
      refine HK.out _ _ ⟨_, _, _, _, _, _, _, _, _, _, _, _, _, _, rfl, h5.op4 hu⟩
    · -- 5
      go_simp
      refine HK.out _ _ ⟨_, _, _, _, _, _, _, _, _, _, _, _, _, _, rfl, h5.op5 hu⟩
    · -- 6
      have d0 : LL l 0 := hdep 0 ⟨⟨0, .data⟩, by simp, rfl, rfl⟩
      have d1 : LL l 1 := hdep 1 ⟨⟨1, .data⟩, by simp, rfl, rfl⟩
      have d2 : LL l 2 := hdep 2 ⟨⟨2, .data⟩, by simp, rfl, rfl⟩
      have d3 : LL l 3 := hdep 3 ⟨⟨3, .data⟩, by simp, rfl, rfl⟩
      have d4 : LL l 4 := hdep 4 ⟨⟨4, .data⟩, by simp, rfl, rfl⟩
      have d5 : LL l 5 := hdep 5 ⟨⟨5, .data⟩, by simp, rfl, rfl⟩
      obtain ⟨aT, qT, e54, ht⟩ := h5.t d0
      obtain ⟨GB, e57, hs9⟩ := h5.b d3
      have e55 := h5.sp d1
      have e56 := h5.ps d2
      have e58 := h5.m4 d4
      have e59 := h5.m5 d5
      unfold termV at e54
      dsimp only at e55 e56 e58 e59
      subst e54 e55 e56 e57 e58 e59
      have HT := Lib.hid (ht hu)
      have HS := Lib.hid (hs9 hu)
      have H5 := Lib.hid h5
      have H11 := Lib.hid h5.a1
      have H12 := Lib.hid h5.a2
      have H13 : Hid (¬ LL l 13) := fun h => hu (h5.d13 h).1
      have H14 : Hid (¬ LL l 14) := fun h => hu (h5.d13 (h5.d14 h)).1
      clear h5 ht hs9
      go_simp
      refine (CL.out _ _ _ _ _ HT.out (ASA.out _ H5.out.bel) HS.out (ASI.out _ H5.out.bel)).mono ?_
      rintro e wC ⟨al, ql, ab, qb, rfl, hln, hbv, ⟨hfl, hfb⟩, hbC⟩
      go_wp2_with fail
      refine HK.out _ _ ⟨_, _, _, _, _, _, _, _, _, _, _, _, _, _, rfl, (H5.out.mono hbC).op6 hu d0 d3 al ql ab qb hln hbv (fun h => ?_) (fun h => ?_)⟩
      · obtain ⟨G, e1, e2, e3⟩ := H11.out h
        have hlt := (e3 H13.out).lt
        exact ⟨G, e1, fr_away hfl (by omega) hlt, fr_away hfb (by omega) hlt⟩
      · obtain ⟨G, e1, e2, e3⟩ := H12.out h
        have hlt := (e3 H14.out).lt
        exact ⟨G, e1, fr_away hfl (by omega) hlt, fr_away hfb (by omega) hlt⟩
    · -- 7
      have d6 : LL l 6 := hdep 6 ⟨⟨6, .data⟩, by simp, rfl, rfl⟩
      go_simp
      refine HK.out _ _ ⟨_, _, _, _, _, _, _, _, _, _, _, _, _, _, rfl, h5.op7 hu d6⟩
    · -- 8
      have d7 : LL l 7 := hdep 7 ⟨⟨7, .data⟩, by simp, rfl, rfl⟩
      have d6 := h5.d7 d7
      obtain ⟨al, ql, ab, qb, -, -, -, e53, -⟩ := h5.c d6
      have e53 := e53 d7
      have HV : Hid (∀ al' ql' ab' qb', s53 = tupV (⟨W0, GP, w.heap.size, GI, 0, g, x, y, I, K, T, C, M⟩ : P5) al' ql' ab' qb' → (al = al' ∧ ql = ql') ∧ (ab = ab' ∧ qb = qb')) := fun al' ql' ab' qb' h => tupV_inj (e53.symm.trans h)
      unfold tupV stmL posL at e53
      dsimp only at e53
      subst e53
      go_simp
      refine HK.out _ _ ⟨_, _, _, _, _, _, _, _, _, _, _, _, _, _, rfl, h5.op8 hu d7 _ (fun al' ql' ab' qb' h => by obtain ⟨⟨rfl, rfl⟩, rfl, rfl⟩ := HV.out _ _ _ _ h; rfl)⟩
    · -- 9
      have d7 : LL l 7 := hdep 7 ⟨⟨7, .data⟩, by simp, rfl, rfl⟩
      have d6 := h5.d7 d7
      obtain ⟨al, ql, ab, qb, -, -, -, e53, -⟩ := h5.c d6
      have e53 := e53 d7
      have HV : Hid (∀ al' ql' ab' qb', s53 = tupV (⟨W0, GP, w.heap.size, GI, 0, g, x, y, I, K, T, C, M⟩ : P5) al' ql' ab' qb' → (al = al' ∧ ql = ql') ∧ (ab = ab' ∧ qb = qb')) := fun al' ql' ab' qb' h => tupV_inj (e53.symm.trans h)
      unfold tupV stmL posL at e53
      dsimp only at e53
      subst e53
      go_simp
      refine HK.out _ _ ⟨_, _, _, _, _, _, _, _, _, _, _, _, _, _, rfl, h5.op9 hu d7 _ (fun al' ql' ab' qb' h => by obtain ⟨⟨rfl, rfl⟩, rfl, rfl⟩ := HV.out _ _ _ _ h; rfl)⟩
    · -- 10
      have d7 : LL l 7 := hdep 7 ⟨⟨7, .data⟩, by simp, rfl, rfl⟩
      have d6 := h5.d7 d7
      obtain ⟨al, ql, ab, qb, -, -, -, e53, -⟩ := h5.c d6
      have e53 := e53 d7
      have HV : Hid (∀ al' ql' ab' qb', s53 = tupV (⟨W0, GP, w.heap.size, GI, 0, g, x, y, I, K, T, C, M⟩ : P5) al' ql' ab' qb' → (al = al' ∧ ql = ql') ∧ (ab = ab' ∧ qb = qb')) := fun al' ql' ab' qb' h => tupV_inj (e53.symm.trans h)
      unfold tupV stmL posL at e53
      dsimp only at e53
      subst e53
      go_simp
      refine HK.out _ _ ⟨_, _, _, _, _, _, _, _, _, _, _, _, _, _, rfl, h5.op10 hu d7 _ (fun al' ql' ab' qb' h => rfl)⟩
    · -- 11
      go_simp
      refine HK.out _ _ ⟨_, _, _, _, _, _, _, _, _, _, _, _, _, _, rfl, (h5.mono (bl_al (Below.refl _ _) _)).op11 hu _ h5.bel.size (heap_alloc_new _ _) (fun h al ql ab qb e => by obtain ⟨al', ql', ab', qb', e1, e2, e3, _⟩ := h5.c h; obtain ⟨⟨rfl, rfl⟩, rfl, rfl⟩ := tupV_inj (e.symm.trans e1); exact ⟨e2.away (List.cons_ne_nil _ _), e3.away (List.cons_ne_nil _ _)⟩)⟩
    · -- 12
      go_simp
      refine HK.out _ _ ⟨_, _, _, _, _, _, _, _, _, _, _, _, _, _, rfl, (h5.mono (bl_al (Below.refl _ _) _)).op12 hu _ h5.bel.size (heap_alloc_new _ _) (fun h al ql ab qb e => by obtain ⟨al', ql', ab', qb', e1, e2, e3, _⟩ := h5.c h; obtain ⟨⟨rfl, rfl⟩, rfl, rfl⟩ := tupV_inj (e.symm.trans e1); exact ⟨e2.away (List.cons_ne_nil _ _), e3.away (List.cons_ne_nil _ _)⟩)⟩
    · -- 13
      have d6 : LL l 6 := hdep 6 ⟨⟨6, .phase⟩, by simp, rfl, rfl⟩
      have d8 : LL l 8 := hdep 8 ⟨⟨8, .phase⟩, by simp, rfl, rfl⟩
      have d11 : LL l 11 := hdep 11 ⟨⟨11, .phase⟩, by simp, rfl, rfl⟩
      have d12 : LL l 12 := hdep 12 ⟨⟨12, .phase⟩, by simp, rfl, rfl⟩
      obtain ⟨G, al, ql, e1, e2, hb, hJ⟩ := h5.s13 hu d6 d8 d11 d12
      unfold ptrV at e1
      unfold stmL at e2
      dsimp only at e2 hJ
      subst e1 e2
      have c0 := hb.cell 0
      have f0 := hb.frozen 0
      have c1 := hb.cell 1
      have f1 := hb.frozen 1
      have c2 := hb.cell 2
      have f2 := hb.frozen 2
      have c3 := hb.cell 3
      have f3 := hb.frozen 3
      have c4 := hb.cell 4
      have f4 := hb.frozen 4
      have c5 := hb.cell 5
      have f5 := hb.frozen 5
      have c6 := hb.cell 6
      have f6 := hb.frozen 6
      have c7 := hb.cell 7
      have f7 := hb.frozen 7
      have c8 := hb.cell 8
      have f8 := hb.frozen 8
      have hlt := hb.lt
      simp only [z9, List.getElem?_cons_zero, List.getElem?_cons_succ] at c0 c1 c2 c3 c4 c5 c6 c7 c8
      have HJ := Lib.hid hJ
      clear hJ hb h5
      go_simp
      refine HK.out _ _ ⟨_, _, _, _, _, _, _, _, _, _, _, _, _, _, rfl, HJ.out⟩
    · -- 14
      have d13 : LL l 13 := hdep 13 ⟨⟨13, .phase⟩, by simp, rfl, rfl⟩
      have d9 : LL l 9 := hdep 9 ⟨⟨9, .phase⟩, by simp, rfl, rfl⟩
      obtain ⟨G, ab, qb, e1, e2, hb, hJ⟩ := h5.s14 hu d13 d9
      unfold ptrV at e1
      unfold posL at e2
      dsimp only at e2 hJ
      subst e1 e2
      have c0 := hb.cell 0
      have f0 := hb.frozen 0
      have c1 := hb.cell 1
      have f1 := hb.frozen 1
      have c2 := hb.cell 2
      have f2 := hb.frozen 2
      have hlt := hb.lt
      simp only [z3, List.getElem?_cons_zero, List.getElem?_cons_succ] at c0 c1 c2
      have HJ := Lib.hid hJ
      clear hJ hb h5
      go_simp
      refine HK.out _ _ ⟨_, _, _, _, _, _, _, _, _, _, _, _, _, _, rfl, HJ.out⟩
    · -- 15
      have d10 : LL l 10 := hdep 10 ⟨⟨10, .data⟩, by simp, rfl, rfl⟩
      have d6 := h5.d7 (h5.d10 d10)
      obtain ⟨al, ql, ab, qb, -, -, -, -, -, -, e63, -⟩ := h5.c d6
      have e63 := e63 d10
      subst e63
      go_simp
      refine HK.out _ _ ⟨_, _, _, _, _, _, _, _, _, _, _, _, _, _, rfl, h5.op15 hu d10⟩
  case fin =>
    intro l a1 w1 hs hall hJ
    obtain ⟨s15, s16, s17, s53, s54, s55, s56, s57, s58, s59, s60, s61, s62, s63, rfl, h5⟩ := hJ
    have d6 := hall 6 (by decide)
    obtain ⟨al, ql, ab, qb, -, hln, hbv, -, -, -, -, e8, e9⟩ := h5.c d6
    obtain ⟨G15, e15, -, -, hb15⟩ := e8 (hall 11 (by decide))
    obtain ⟨G16, e16, -, -, hb16⟩ := e9 (hall 12 (by decide))
    have hb15 := hb15 (hall 13 (by decide))
    have hb16 := hb16 (hall 14 (by decide))
    have e17 := h5.x15 (hall 15 (by decide))
    have hbw := bl_tr BW.out h5.bel
    unfold ptrV at e15 e16
    subst e15 e16 e17
    have HLN := Lib.hid hln
    have HBV := Lib.hid hbv
    have HB15 : Hid (Blk w1 G15 51 [.int .i64 2, .int .i64 10988, .int .i64 11016, .int .i64 11036, .slice al 2 ql, .int .i64 T, .int .i64 C, .int .i64 M, .bool g]) := hb15
    have HB16 : Hid (Blk w1 G16 46 [.slice ab 2 qb, .int .i64 C, .int .i64 M]) := hb16
    have HBP := Lib.hid (PP.out.below h5.bel)
    have HSA := Lib.hid (SA.out.below h5.bel)
    have HSI := Lib.hid (SI.out.below h5.bel)
    have HBW := Lib.hid hbw
    clear hln hbv hb15 hb16 h5 hbw e8 e9 hall hs d6 CL ASA ASI PP SA SI BW
    go_wp2_with fail
    refine (awake18_any _).mono ?_
    rintro _ w2 ⟨rfl, hb2⟩
    have KLN := Lib.hid (HLN.out.below hb2)
    have KBV := Lib.hid (HBV.out.below hb2)
    have K15 := Lib.hid (HB15.out.below hb2)
    have K16 := Lib.hid (HB16.out.below hb2)
    have KBP := Lib.hid (HBP.out.below hb2)
    have KSA := Lib.hid (HSA.out.below hb2)
    have KSI := Lib.hid (HSI.out.below hb2)
    have KBW := Lib.hid (bl_tr HBW.out hb2)
    clear hb2 HLN HBV HB15 HB16 HBP HSA HSI HBW
    have t4 := K15.out.cell 4
    have q0 := K16.out.cell 0
    have q1 := K16.out.cell 1
    have q2 := K16.out.cell 2
    simp only [List.getElem?_cons_zero, List.getElem?_cons_succ] at t4 q0 q1 q2
    go_wp2_with fail
    refine (refRight11_any _ [x, y] C M true HF4 _ KBV.out).mono ?_
    rintro _ w3 ⟨rfl, hb3⟩
    have JLN := KLN.out.below hb3
    have JBV := KBV.out.below hb3
    have J15 := K15.out.below hb3
    have J16 := K16.out.below hb3
    have JBP := KBP.out.below hb3
    have JSA := KSA.out.below hb3
    have JSI := KSI.out.below hb3
    have HBE := Lib.hid (bl_tr KBW.out hb3)
    clear hb3 t4 q0 q1 q2
    have t2 := J15.cell 3
    have t4 := J15.cell 4
    have t5 := J15.cell 5
    have t6 := J15.cell 6
    have t7 := J15.cell 7
    have t8 := J15.cell 8
    have q0 := J16.cell 0
    have q1 := J16.cell 1
    have q2 := J16.cell 2
    have p0 := JBP.cell 0
    have p1 := JBP.cell 1
    simp only [List.getElem?_cons_zero, List.getElem?_cons_succ] at t2 t4 t5 t6 t7 t8 q0 q1 q2 p0 p1
    obtain ⟨_, _, ela, _, _, hlc⟩ := JLN
    injection ela with ela1 ela2 ela3
    subst ela1 ela3
    obtain ⟨bl, ol, rfl, hlq⟩ := hlc (by simp)
    obtain ⟨l00, l01, l02⟩ := hlq 0 (by simp)
    obtain ⟨l10, l11, l12⟩ := hlq 1 (by simp)
    obtain ⟨bb, ob, ebb, b0⟩ := JBV.at (i := 0) (by simp)
    obtain ⟨_, _, ebb2, b1⟩ := JBV.at (i := 1) (by simp)
    subst ebb
    cases ebb2
    obtain ⟨_, _, ea1, a0⟩ := JSA.at (i := 0) (by simp)
    obtain ⟨_, _, ea2, a1⟩ := JSA.at (i := 1) (by simp)
    cases ea1
    cases ea2
    obtain ⟨_, _, ei1, i0⟩ := JSI.at (i := 0) (by simp)
    obtain ⟨_, _, ei2, i1⟩ := JSI.at (i := 1) (by simp)
    cases ei1
    cases ei2
    simp only [List.getD_cons_zero, List.getD_cons_succ, Nat.add_zero, Nat.zero_add, Nat.zero_mul, Nat.one_mul] at l00 l01 l02 l10 l11 l12 b0 b1 a0 a1 i0 i1
    obtain ⟨hf5, hf6, hf7, hf8, hf9, hf10, hf11⟩ := HF5.out
    have hbd := HBD.out
    have wA : IntKind.i64.wrap (A + B) = A + B := IntWalk.i64_in _ (by omega)
    skip
    have wI : IntKind.i64.wrap (A + B + I) = A + B + I := IntWalk.i64_in _ (by omega)
    have wK : IntKind.i64.wrap (A + B + I + K) = A + B + I + K := IntWalk.i64_in _ (by omega)
    have wx : IntKind.i64.wrap (x + y) = x + y := IntWalk.i64_in _ (by omega)
    have wT : IntKind.i64.wrap (T - C) = T - C := IntWalk.i64_in _ (by omega)
    have u1 : (x + y == T) = true := by simp; omega
    have u2 : (T - C == A + B + I + K) = true := by simp; omega
    have u3 : decide (M ≤ T) = true := by simp; omega
    clear hf5 hf6 hf7 hf8 hf9 hf10 hf11 hbd KLN KBV K15 K16 KBP KSA KSI J15 J16 JBP JBV JSA JSI
    go_wp2_with fail
    go_quiet (fail)
    go_wp2_with fail
    simp only [List.append_eq, List.cons_append, List.nil_append]
    refine wp_region_quiet_cheap (by kernel_rfl) (by kernel_rfl) (by kernel_rfl) ?_
    repeat (go_big_quiet_step (fail))
    refine wpQuiet_nil ?_
    intro _ hw'
    obtain ⟨nq2, hw''⟩ := hw'
    subst hw''
    go_wp2
    go_ret
    exact ⟨rfl, bdN (bdN HBE.out _) _⟩
theorem closingLines_any (a b credit i k : Int) (g : Bool) (w : World) :
    Calls Try.prog 10 #[.int .i64 a, .int .i64 b, .int .i64 credit, .int .i64 i, .int .i64 k, .bool g] w (RetB (.bool true) w) := by
  obtain ⟨A, a1, a2, a3⟩ := u64_remL a 10000 (by omega) (by omega)
  obtain ⟨B, b1, b2, b3⟩ := u64_remL b 10000 (by omega) (by omega)
  obtain ⟨R, r1, r2, r3⟩ := u64_remL credit 1000 (by omega) (by omega)
  obtain ⟨I, i1, i2, i3⟩ := u64_remL i 1000 (by omega) (by omega)
  obtain ⟨K, k1, k2, k3⟩ := u64_remL k 1000 (by omega) (by omega)
  have hb : (0 ≤ (A : Int) ∧ (A : Int) < 10000) ∧ (0 ≤ (B : Int) ∧ (B : Int) < 10000) ∧ (0 ≤ (R : Int) ∧ (R : Int) < 1000) ∧ (0 ≤ (I : Int) ∧ (I : Int) < 1000) ∧ (0 ≤ (K : Int) ∧ (K : Int) < 1000) :=
    ⟨⟨Int.natCast_nonneg _, a2⟩, ⟨Int.natCast_nonneg _, b2⟩, ⟨Int.natCast_nonneg _, r2⟩, ⟨Int.natCast_nonneg _, i2⟩, Int.natCast_nonneg _, k2⟩
  by_cases hz : (A : Int) + (B : Int) = 0
  · exact lines_yes a b credit i k g A B R I K hb hz ⟨a1, a3⟩ ⟨b1, b3⟩ ⟨r1, r3⟩ ⟨i1, i3⟩ ⟨k1, k3⟩ w
  · exact lines_no a b credit i k g A B R I K hb hz ⟨a1, a3⟩ ⟨b1, b3⟩ ⟨r1, r3⟩ ⟨i1, i3⟩ ⟨k1, k3⟩ w
end Go.Proofs.Ytllblmoojohffaa
