/- ClosingLines' drawn region: what holds, whatever has come up. -/
import Derived.Test.YtllblmoojohffaaLinesM
import Derived.Test.YtllblmoojohffaaRegionInv
namespace Go.Proofs.Ytllblmoojohffaa
open Go.RowKit
set_option linter.unusedVariables false

abbrev LL (l : Array Bool) (i : Nat) : Prop := l.getD i false = true
theorem ll_set {l : Array Bool} {i : Nat} (hs : l.size = 16) (hi : i < 16) (j : Nat) : LL (l.setIfInBounds i true) j ↔ j = i ∨ LL l j := by
  unfold LL
  by_cases h : i = j
  · subst h
    have : i < l.size := by omega
    simp [this]
  · rw [getD_set_ne false h]
    constructor
    · exact .inr
    · rintro (e | e)
      · exact absurd e.symm h
      · exact e
structure P5 where
  W0 : World
  GP : Nat
  GA : Nat
  GI : Nat
  R : Int
  g : Bool
  x : Int
  y : Int
  I : Int
  K : Int
  T : Int
  C : Int
  M : Int
def sl2 (a : Option Addr) (q : Nat) : Value := .slice a 2 q
def termV (a : Option Addr) (q : Nat) : Value := .agg #[.int .i64 5000, .slice a 2 q, .int .i64 1, .int .i64 20, .int .i64 25, .int .i64 20, .int .i64 10957]
def ptrV (G : Nat) : Value := .pointer (some ⟨G, 0, none⟩)
def stmL (p : P5) (al : Option Addr) (ql : Nat) : List Value := [.int .i64 2, .int .i64 10988, .int .i64 11016, .int .i64 11036, .slice al 2 ql, .int .i64 p.T, .int .i64 p.C, .int .i64 p.M, .bool p.g]
def posL (p : P5) (ab : Option Addr) (qb : Nat) : List Value := [.slice ab 2 qb, .int .i64 p.C, .int .i64 p.M]
def tupV (p : P5) (al : Option Addr) (ql : Nat) (ab : Option Addr) (qb : Nat) : Value := .tuple #[.agg (stmL p al ql).toArray, .agg (posL p ab qb).toArray, .int .i64 0]
def z9 : List Value := [.int .i64 0, .int .i64 0, .int .i64 0, .int .i64 0, .slice none 0 0, .int .i64 0, .int .i64 0, .int .i64 0, .bool false]
def z3 : List Value := [.slice none 0 0, .int .i64 0, .int .i64 0]
/-- The slice lies in another block. -/
def awayS (a : Option Addr) (G : Nat) : Prop := ∀ b o, a = some ⟨b, o, none⟩ → b ≠ G
/-- What holds, whatever has come up. -/
structure J5 (p : P5) (l : Array Bool) (s15 s16 s17 s53 s54 s55 s56 s57 s58 s59 s60 s61 s62 s63 : Value) (w : World) : Prop where
  sz : l.size = 16
  bel : Below p.W0.heap.size p.W0 w
  d6 : LL l 6 → LL l 0 ∧ LL l 3
  d7 : LL l 7 → LL l 6
  d8 : LL l 8 → LL l 7
  d9 : LL l 9 → LL l 7
  d10 : LL l 10 → LL l 7
  d13 : LL l 13 → LL l 6 ∧ LL l 11 ∧ LL l 12
  d14 : LL l 14 → LL l 13
  t : LL l 0 → ∃ a q, s54 = termV a q ∧ (¬ LL l 6 → TrS w (.slice a 2 q) ts18)
  sp : LL l 1 → s55 = .agg #[.int .i64 10988, .int .i64 11016]
  ps : LL l 2 → s56 = .agg #[.slice (some ⟨p.GA, 0, none⟩) 2 2, .int .i64 p.R, .int .i64 0]
  b : LL l 3 → ∃ G, s57 = .slice (some ⟨G, 0, none⟩) 2 2 ∧ (¬ LL l 6 → Sl .i64 w s57 [5, 9])
  m4 : LL l 4 → s58 = .slice (some ⟨p.GI, 0, none⟩) 2 2
  m5 : LL l 5 → s59 = .bool p.g
  a1 : LL l 11 → ∃ G, s15 = ptrV G ∧ p.W0.heap.size ≤ G ∧ (¬ LL l 13 → Blk w G 51 z9)
  a2 : LL l 12 → ∃ G, s16 = ptrV G ∧ p.W0.heap.size ≤ G ∧ (¬ LL l 14 → Blk w G 46 z3)
  c : LL l 6 → ∃ al ql ab qb, s60 = tupV p al ql ab qb ∧ LnS w (.slice al 2 ql) [(p.x, p.I, 5), (p.y, p.K, 9)] ∧ Sl .i64 w (.slice ab 2 qb) [p.x, p.y] ∧
    (LL l 7 → s53 = tupV p al ql ab qb) ∧ (LL l 8 → s61 = .agg (stmL p al ql).toArray) ∧ (LL l 9 → s62 = .agg (posL p ab qb).toArray) ∧ (LL l 10 → s63 = .int .i64 0) ∧
    (LL l 11 → ∃ G, s15 = ptrV G ∧ awayS al G ∧ awayS ab G ∧ (LL l 13 → Blk w G 51 (stmL p al ql))) ∧
    (LL l 12 → ∃ G, s16 = ptrV G ∧ awayS al G ∧ awayS ab G ∧ (LL l 14 → Blk w G 46 (posL p ab qb)))
  x15 : LL l 15 → s17 = .int .i64 0
variable {p : P5} {l : Array Bool} {s15 s16 s17 s53 s54 s55 s56 s57 s58 s59 s60 s61 s62 s63 : Value} {w w' : World}
theorem J5.mono (h : J5 p l s15 s16 s17 s53 s54 s55 s56 s57 s58 s59 s60 s61 s62 s63 w) (hb : Below w.heap.size w w') : J5 p l s15 s16 s17 s53 s54 s55 s56 s57 s58 s59 s60 s61 s62 s63 w' where
  sz := h.sz
  bel := h.bel.trans (hb.mono h.bel.size)
  d6 := h.d6
  d7 := h.d7
  d8 := h.d8
  d9 := h.d9
  d10 := h.d10
  d13 := h.d13
  d14 := h.d14
  t := fun h1 => by obtain ⟨a, q, e, f⟩ := h.t h1; exact ⟨a, q, e, fun h2 => (f h2).below hb⟩
  sp := h.sp
  ps := h.ps
  b := fun h1 => by obtain ⟨G, e, f⟩ := h.b h1; exact ⟨G, e, fun h2 => (f h2).below hb⟩
  m4 := h.m4
  m5 := h.m5
  a1 := fun h1 => by obtain ⟨G, e, f, k⟩ := h.a1 h1; exact ⟨G, e, f, fun h2 => (k h2).below hb⟩
  a2 := fun h1 => by obtain ⟨G, e, f, k⟩ := h.a2 h1; exact ⟨G, e, f, fun h2 => (k h2).below hb⟩
  c := fun h1 => by
    obtain ⟨al, ql, ab, qb, e1, e2, e3, e4, e5, e6, e7, e8, e9⟩ := h.c h1
    refine ⟨al, ql, ab, qb, e1, e2.below hb, e3.below hb, e4, e5, e6, e7, fun h2 => ?_, fun h2 => ?_⟩
    · obtain ⟨G, f1, f2, f3, f4⟩ := e8 h2
      exact ⟨G, f1, f2, f3, fun h3 => (f4 h3).below hb⟩
    · obtain ⟨G, f1, f2, f3, f4⟩ := e9 h2
      exact ⟨G, f1, f2, f3, fun h3 => (f4 h3).below hb⟩
  x15 := h.x15
theorem ptrV_inj {a b : Nat} (h : ptrV a = ptrV b) : a = b := by
  unfold ptrV at h
  injection h with h
  injection h with h
  injection h
theorem blk_type {w : World} {g : Nat} {e e' : TypeId} {c c' : List Value} (h : Blk w g e c) (h' : Blk w g e' c') : e = e' := by
  unfold Blk at h h'
  rw [h] at h'
  simp at h'
  exact h'.2
theorem J5.op0 (h : J5 p l s15 s16 s17 s53 s54 s55 s56 s57 s58 s59 s60 s61 s62 s63 w) (hu : ¬ LL l 0) (a : Option Addr) (q : Nat) (ht : TrS w (.slice a 2 q) ts18) : J5 p (l.setIfInBounds 0 true) s15 s16 s17 s53 (termV a q) s55 s56 s57 s58 s59 s60 s61 s62 s63 w := by
  have hL := fun j => ll_set (l := l) (i := 0) h.sz (by omega) j
  have bk : ∀ j, LL (l.setIfInBounds 0 true) j → j ≠ 0 → LL l j := fun j h1 h2 => ((hL j).1 h1).resolve_left h2
  have fw : ∀ j, LL l j → LL (l.setIfInBounds 0 true) j := fun j h1 => (hL j).2 (.inr h1)
  have fn : ∀ j, ¬ LL (l.setIfInBounds 0 true) j → ¬ LL l j := fun j h1 h2 => h1 (fw j h2)
  exact {
    sz := by simpa using h.sz
    bel := h.bel
    d6 := fun h1 => absurd (h.d6 (bk 6 h1 (by omega))).1 hu
    d7 := fun h1 => fw 6 (h.d7 (bk 7 h1 (by omega)))
    d8 := fun h1 => fw 7 (h.d8 (bk 8 h1 (by omega)))
    d9 := fun h1 => fw 7 (h.d9 (bk 9 h1 (by omega)))
    d10 := fun h1 => fw 7 (h.d10 (bk 10 h1 (by omega)))
    d13 := fun h1 => by have := h.d13 (bk 13 h1 (by omega)); exact ⟨fw 6 this.1, fw 11 this.2.1, fw 12 this.2.2⟩
    d14 := fun h1 => fw 13 (h.d14 (bk 14 h1 (by omega)))
    t := fun _ => ⟨a, q, rfl, fun _ => ht⟩
    sp := fun h1 => h.sp (bk 1 h1 (by omega))
    ps := fun h1 => h.ps (bk 2 h1 (by omega))
    b := fun h1 => by obtain ⟨G, e, f⟩ := h.b (bk 3 h1 (by omega)); exact ⟨G, e, fun h2 => f (fn 6 h2)⟩
    m4 := fun h1 => h.m4 (bk 4 h1 (by omega))
    m5 := fun h1 => h.m5 (bk 5 h1 (by omega))
    a1 := fun h1 => by obtain ⟨G, e, f, k⟩ := h.a1 (bk 11 h1 (by omega)); exact ⟨G, e, f, fun h2 => k (fn 13 h2)⟩
    a2 := fun h1 => by obtain ⟨G, e, f, k⟩ := h.a2 (bk 12 h1 (by omega)); exact ⟨G, e, f, fun h2 => k (fn 14 h2)⟩
    c := fun h1 => (by obtain ⟨al, ql, ab, qb, e1, e2, e3, e4, e5, e6, e7, e8, e9⟩ := h.c (bk 6 h1 (by omega)); exact ⟨al, ql, ab, qb, e1, e2, e3, fun h2 => e4 (bk 7 h2 (by omega)), fun h2 => e5 (bk 8 h2 (by omega)), fun h2 => e6 (bk 9 h2 (by omega)), fun h2 => e7 (bk 10 h2 (by omega)), fun h2 => by obtain ⟨G, f1, f2, f3, f4⟩ := e8 (bk 11 h2 (by omega)); exact ⟨G, f1, f2, f3, fun h3 => f4 (bk 13 h3 (by omega))⟩, fun h2 => by obtain ⟨G, f1, f2, f3, f4⟩ := e9 (bk 12 h2 (by omega)); exact ⟨G, f1, f2, f3, fun h3 => f4 (bk 14 h3 (by omega))⟩⟩)
    x15 := fun h1 => h.x15 (bk 15 h1 (by omega))
  }
theorem J5.op1 (h : J5 p l s15 s16 s17 s53 s54 s55 s56 s57 s58 s59 s60 s61 s62 s63 w) (hu : ¬ LL l 1) : J5 p (l.setIfInBounds 1 true) s15 s16 s17 s53 s54 (.agg #[.int .i64 10988, .int .i64 11016]) s56 s57 s58 s59 s60 s61 s62 s63 w := by
  have hL := fun j => ll_set (l := l) (i := 1) h.sz (by omega) j
  have bk : ∀ j, LL (l.setIfInBounds 1 true) j → j ≠ 1 → LL l j := fun j h1 h2 => ((hL j).1 h1).resolve_left h2
  have fw : ∀ j, LL l j → LL (l.setIfInBounds 1 true) j := fun j h1 => (hL j).2 (.inr h1)
  have fn : ∀ j, ¬ LL (l.setIfInBounds 1 true) j → ¬ LL l j := fun j h1 h2 => h1 (fw j h2)
  exact {
    sz := by simpa using h.sz
    bel := h.bel
    d6 := fun h1 => by have := h.d6 (bk 6 h1 (by omega)); exact ⟨fw 0 this.1, fw 3 this.2⟩
    d7 := fun h1 => fw 6 (h.d7 (bk 7 h1 (by omega)))
    d8 := fun h1 => fw 7 (h.d8 (bk 8 h1 (by omega)))
    d9 := fun h1 => fw 7 (h.d9 (bk 9 h1 (by omega)))
    d10 := fun h1 => fw 7 (h.d10 (bk 10 h1 (by omega)))
    d13 := fun h1 => by have := h.d13 (bk 13 h1 (by omega)); exact ⟨fw 6 this.1, fw 11 this.2.1, fw 12 this.2.2⟩
    d14 := fun h1 => fw 13 (h.d14 (bk 14 h1 (by omega)))
    t := fun h1 => by obtain ⟨a, q, e, f⟩ := h.t (bk 0 h1 (by omega)); exact ⟨a, q, e, fun h2 => f (fn 6 h2)⟩
    sp := fun _ => rfl
    ps := fun h1 => h.ps (bk 2 h1 (by omega))
    b := fun h1 => by obtain ⟨G, e, f⟩ := h.b (bk 3 h1 (by omega)); exact ⟨G, e, fun h2 => f (fn 6 h2)⟩
    m4 := fun h1 => h.m4 (bk 4 h1 (by omega))
    m5 := fun h1 => h.m5 (bk 5 h1 (by omega))
    a1 := fun h1 => by obtain ⟨G, e, f, k⟩ := h.a1 (bk 11 h1 (by omega)); exact ⟨G, e, f, fun h2 => k (fn 13 h2)⟩
    a2 := fun h1 => by obtain ⟨G, e, f, k⟩ := h.a2 (bk 12 h1 (by omega)); exact ⟨G, e, f, fun h2 => k (fn 14 h2)⟩
    c := fun h1 => (by obtain ⟨al, ql, ab, qb, e1, e2, e3, e4, e5, e6, e7, e8, e9⟩ := h.c (bk 6 h1 (by omega)); exact ⟨al, ql, ab, qb, e1, e2, e3, fun h2 => e4 (bk 7 h2 (by omega)), fun h2 => e5 (bk 8 h2 (by omega)), fun h2 => e6 (bk 9 h2 (by omega)), fun h2 => e7 (bk 10 h2 (by omega)), fun h2 => by obtain ⟨G, f1, f2, f3, f4⟩ := e8 (bk 11 h2 (by omega)); exact ⟨G, f1, f2, f3, fun h3 => f4 (bk 13 h3 (by omega))⟩, fun h2 => by obtain ⟨G, f1, f2, f3, f4⟩ := e9 (bk 12 h2 (by omega)); exact ⟨G, f1, f2, f3, fun h3 => f4 (bk 14 h3 (by omega))⟩⟩)
    x15 := fun h1 => h.x15 (bk 15 h1 (by omega))
  }
theorem J5.op2 (h : J5 p l s15 s16 s17 s53 s54 s55 s56 s57 s58 s59 s60 s61 s62 s63 w) (hu : ¬ LL l 2) : J5 p (l.setIfInBounds 2 true) s15 s16 s17 s53 s54 s55 (.agg #[.slice (some ⟨p.GA, 0, none⟩) 2 2, .int .i64 p.R, .int .i64 0]) s57 s58 s59 s60 s61 s62 s63 w := by
  have hL := fun j => ll_set (l := l) (i := 2) h.sz (by omega) j
  have bk : ∀ j, LL (l.setIfInBounds 2 true) j → j ≠ 2 → LL l j := fun j h1 h2 => ((hL j).1 h1).resolve_left h2
  have fw : ∀ j, LL l j → LL (l.setIfInBounds 2 true) j := fun j h1 => (hL j).2 (.inr h1)
  have fn : ∀ j, ¬ LL (l.setIfInBounds 2 true) j → ¬ LL l j := fun j h1 h2 => h1 (fw j h2)
  exact {
    sz := by simpa using h.sz
    bel := h.bel
    d6 := fun h1 => by have := h.d6 (bk 6 h1 (by omega)); exact ⟨fw 0 this.1, fw 3 this.2⟩
    d7 := fun h1 => fw 6 (h.d7 (bk 7 h1 (by omega)))
    d8 := fun h1 => fw 7 (h.d8 (bk 8 h1 (by omega)))
    d9 := fun h1 => fw 7 (h.d9 (bk 9 h1 (by omega)))
    d10 := fun h1 => fw 7 (h.d10 (bk 10 h1 (by omega)))
    d13 := fun h1 => by have := h.d13 (bk 13 h1 (by omega)); exact ⟨fw 6 this.1, fw 11 this.2.1, fw 12 this.2.2⟩
    d14 := fun h1 => fw 13 (h.d14 (bk 14 h1 (by omega)))
    t := fun h1 => by obtain ⟨a, q, e, f⟩ := h.t (bk 0 h1 (by omega)); exact ⟨a, q, e, fun h2 => f (fn 6 h2)⟩
    sp := fun h1 => h.sp (bk 1 h1 (by omega))
    ps := fun _ => rfl
    b := fun h1 => by obtain ⟨G, e, f⟩ := h.b (bk 3 h1 (by omega)); exact ⟨G, e, fun h2 => f (fn 6 h2)⟩
    m4 := fun h1 => h.m4 (bk 4 h1 (by omega))
    m5 := fun h1 => h.m5 (bk 5 h1 (by omega))
    a1 := fun h1 => by obtain ⟨G, e, f, k⟩ := h.a1 (bk 11 h1 (by omega)); exact ⟨G, e, f, fun h2 => k (fn 13 h2)⟩
    a2 := fun h1 => by obtain ⟨G, e, f, k⟩ := h.a2 (bk 12 h1 (by omega)); exact ⟨G, e, f, fun h2 => k (fn 14 h2)⟩
    c := fun h1 => (by obtain ⟨al, ql, ab, qb, e1, e2, e3, e4, e5, e6, e7, e8, e9⟩ := h.c (bk 6 h1 (by omega)); exact ⟨al, ql, ab, qb, e1, e2, e3, fun h2 => e4 (bk 7 h2 (by omega)), fun h2 => e5 (bk 8 h2 (by omega)), fun h2 => e6 (bk 9 h2 (by omega)), fun h2 => e7 (bk 10 h2 (by omega)), fun h2 => by obtain ⟨G, f1, f2, f3, f4⟩ := e8 (bk 11 h2 (by omega)); exact ⟨G, f1, f2, f3, fun h3 => f4 (bk 13 h3 (by omega))⟩, fun h2 => by obtain ⟨G, f1, f2, f3, f4⟩ := e9 (bk 12 h2 (by omega)); exact ⟨G, f1, f2, f3, fun h3 => f4 (bk 14 h3 (by omega))⟩⟩)
    x15 := fun h1 => h.x15 (bk 15 h1 (by omega))
  }
theorem J5.op3 (h : J5 p l s15 s16 s17 s53 s54 s55 s56 s57 s58 s59 s60 s61 s62 s63 w) (hu : ¬ LL l 3) (G : Nat) (hs : Sl .i64 w (.slice (some ⟨G, 0, none⟩) 2 2) [5, 9]) : J5 p (l.setIfInBounds 3 true) s15 s16 s17 s53 s54 s55 s56 (.slice (some ⟨G, 0, none⟩) 2 2) s58 s59 s60 s61 s62 s63 w := by
  have hL := fun j => ll_set (l := l) (i := 3) h.sz (by omega) j
  have bk : ∀ j, LL (l.setIfInBounds 3 true) j → j ≠ 3 → LL l j := fun j h1 h2 => ((hL j).1 h1).resolve_left h2
  have fw : ∀ j, LL l j → LL (l.setIfInBounds 3 true) j := fun j h1 => (hL j).2 (.inr h1)
  have fn : ∀ j, ¬ LL (l.setIfInBounds 3 true) j → ¬ LL l j := fun j h1 h2 => h1 (fw j h2)
  exact {
    sz := by simpa using h.sz
    bel := h.bel
    d6 := fun h1 => absurd (h.d6 (bk 6 h1 (by omega))).2 hu
    d7 := fun h1 => fw 6 (h.d7 (bk 7 h1 (by omega)))
    d8 := fun h1 => fw 7 (h.d8 (bk 8 h1 (by omega)))
    d9 := fun h1 => fw 7 (h.d9 (bk 9 h1 (by omega)))
    d10 := fun h1 => fw 7 (h.d10 (bk 10 h1 (by omega)))
    d13 := fun h1 => by have := h.d13 (bk 13 h1 (by omega)); exact ⟨fw 6 this.1, fw 11 this.2.1, fw 12 this.2.2⟩
    d14 := fun h1 => fw 13 (h.d14 (bk 14 h1 (by omega)))
    t := fun h1 => by obtain ⟨a, q, e, f⟩ := h.t (bk 0 h1 (by omega)); exact ⟨a, q, e, fun h2 => f (fn 6 h2)⟩
    sp := fun h1 => h.sp (bk 1 h1 (by omega))
    ps := fun h1 => h.ps (bk 2 h1 (by omega))
    b := fun _ => ⟨G, rfl, fun _ => hs⟩
    m4 := fun h1 => h.m4 (bk 4 h1 (by omega))
    m5 := fun h1 => h.m5 (bk 5 h1 (by omega))
    a1 := fun h1 => by obtain ⟨G, e, f, k⟩ := h.a1 (bk 11 h1 (by omega)); exact ⟨G, e, f, fun h2 => k (fn 13 h2)⟩
    a2 := fun h1 => by obtain ⟨G, e, f, k⟩ := h.a2 (bk 12 h1 (by omega)); exact ⟨G, e, f, fun h2 => k (fn 14 h2)⟩
    c := fun h1 => (by obtain ⟨al, ql, ab, qb, e1, e2, e3, e4, e5, e6, e7, e8, e9⟩ := h.c (bk 6 h1 (by omega)); exact ⟨al, ql, ab, qb, e1, e2, e3, fun h2 => e4 (bk 7 h2 (by omega)), fun h2 => e5 (bk 8 h2 (by omega)), fun h2 => e6 (bk 9 h2 (by omega)), fun h2 => e7 (bk 10 h2 (by omega)), fun h2 => by obtain ⟨G, f1, f2, f3, f4⟩ := e8 (bk 11 h2 (by omega)); exact ⟨G, f1, f2, f3, fun h3 => f4 (bk 13 h3 (by omega))⟩, fun h2 => by obtain ⟨G, f1, f2, f3, f4⟩ := e9 (bk 12 h2 (by omega)); exact ⟨G, f1, f2, f3, fun h3 => f4 (bk 14 h3 (by omega))⟩⟩)
    x15 := fun h1 => h.x15 (bk 15 h1 (by omega))
  }
theorem J5.op4 (h : J5 p l s15 s16 s17 s53 s54 s55 s56 s57 s58 s59 s60 s61 s62 s63 w) (hu : ¬ LL l 4) : J5 p (l.setIfInBounds 4 true) s15 s16 s17 s53 s54 s55 s56 s57 (.slice (some ⟨p.GI, 0, none⟩) 2 2) s59 s60 s61 s62 s63 w := by
  have hL := fun j => ll_set (l := l) (i := 4) h.sz (by omega) j
  have bk : ∀ j, LL (l.setIfInBounds 4 true) j → j ≠ 4 → LL l j := fun j h1 h2 => ((hL j).1 h1).resolve_left h2
  have fw : ∀ j, LL l j → LL (l.setIfInBounds 4 true) j := fun j h1 => (hL j).2 (.inr h1)
  have fn : ∀ j, ¬ LL (l.setIfInBounds 4 true) j → ¬ LL l j := fun j h1 h2 => h1 (fw j h2)
  exact {
    sz := by simpa using h.sz
    bel := h.bel
    d6 := fun h1 => by have := h.d6 (bk 6 h1 (by omega)); exact ⟨fw 0 this.1, fw 3 this.2⟩
    d7 := fun h1 => fw 6 (h.d7 (bk 7 h1 (by omega)))
    d8 := fun h1 => fw 7 (h.d8 (bk 8 h1 (by omega)))
    d9 := fun h1 => fw 7 (h.d9 (bk 9 h1 (by omega)))
    d10 := fun h1 => fw 7 (h.d10 (bk 10 h1 (by omega)))
    d13 := fun h1 => by have := h.d13 (bk 13 h1 (by omega)); exact ⟨fw 6 this.1, fw 11 this.2.1, fw 12 this.2.2⟩
    d14 := fun h1 => fw 13 (h.d14 (bk 14 h1 (by omega)))
    t := fun h1 => by obtain ⟨a, q, e, f⟩ := h.t (bk 0 h1 (by omega)); exact ⟨a, q, e, fun h2 => f (fn 6 h2)⟩
    sp := fun h1 => h.sp (bk 1 h1 (by omega))
    ps := fun h1 => h.ps (bk 2 h1 (by omega))
    b := fun h1 => by obtain ⟨G, e, f⟩ := h.b (bk 3 h1 (by omega)); exact ⟨G, e, fun h2 => f (fn 6 h2)⟩
    m4 := fun _ => rfl
    m5 := fun h1 => h.m5 (bk 5 h1 (by omega))
    a1 := fun h1 => by obtain ⟨G, e, f, k⟩ := h.a1 (bk 11 h1 (by omega)); exact ⟨G, e, f, fun h2 => k (fn 13 h2)⟩
    a2 := fun h1 => by obtain ⟨G, e, f, k⟩ := h.a2 (bk 12 h1 (by omega)); exact ⟨G, e, f, fun h2 => k (fn 14 h2)⟩
    c := fun h1 => (by obtain ⟨al, ql, ab, qb, e1, e2, e3, e4, e5, e6, e7, e8, e9⟩ := h.c (bk 6 h1 (by omega)); exact ⟨al, ql, ab, qb, e1, e2, e3, fun h2 => e4 (bk 7 h2 (by omega)), fun h2 => e5 (bk 8 h2 (by omega)), fun h2 => e6 (bk 9 h2 (by omega)), fun h2 => e7 (bk 10 h2 (by omega)), fun h2 => by obtain ⟨G, f1, f2, f3, f4⟩ := e8 (bk 11 h2 (by omega)); exact ⟨G, f1, f2, f3, fun h3 => f4 (bk 13 h3 (by omega))⟩, fun h2 => by obtain ⟨G, f1, f2, f3, f4⟩ := e9 (bk 12 h2 (by omega)); exact ⟨G, f1, f2, f3, fun h3 => f4 (bk 14 h3 (by omega))⟩⟩)
    x15 := fun h1 => h.x15 (bk 15 h1 (by omega))
  }
theorem J5.op5 (h : J5 p l s15 s16 s17 s53 s54 s55 s56 s57 s58 s59 s60 s61 s62 s63 w) (hu : ¬ LL l 5) : J5 p (l.setIfInBounds 5 true) s15 s16 s17 s53 s54 s55 s56 s57 s58 (.bool p.g) s60 s61 s62 s63 w := by
  have hL := fun j => ll_set (l := l) (i := 5) h.sz (by omega) j
  have bk : ∀ j, LL (l.setIfInBounds 5 true) j → j ≠ 5 → LL l j := fun j h1 h2 => ((hL j).1 h1).resolve_left h2
  have fw : ∀ j, LL l j → LL (l.setIfInBounds 5 true) j := fun j h1 => (hL j).2 (.inr h1)
  have fn : ∀ j, ¬ LL (l.setIfInBounds 5 true) j → ¬ LL l j := fun j h1 h2 => h1 (fw j h2)
  exact {
    sz := by simpa using h.sz
    bel := h.bel
    d6 := fun h1 => by have := h.d6 (bk 6 h1 (by omega)); exact ⟨fw 0 this.1, fw 3 this.2⟩
    d7 := fun h1 => fw 6 (h.d7 (bk 7 h1 (by omega)))
    d8 := fun h1 => fw 7 (h.d8 (bk 8 h1 (by omega)))
    d9 := fun h1 => fw 7 (h.d9 (bk 9 h1 (by omega)))
    d10 := fun h1 => fw 7 (h.d10 (bk 10 h1 (by omega)))
    d13 := fun h1 => by have := h.d13 (bk 13 h1 (by omega)); exact ⟨fw 6 this.1, fw 11 this.2.1, fw 12 this.2.2⟩
    d14 := fun h1 => fw 13 (h.d14 (bk 14 h1 (by omega)))
    t := fun h1 => by obtain ⟨a, q, e, f⟩ := h.t (bk 0 h1 (by omega)); exact ⟨a, q, e, fun h2 => f (fn 6 h2)⟩
    sp := fun h1 => h.sp (bk 1 h1 (by omega))
    ps := fun h1 => h.ps (bk 2 h1 (by omega))
    b := fun h1 => by obtain ⟨G, e, f⟩ := h.b (bk 3 h1 (by omega)); exact ⟨G, e, fun h2 => f (fn 6 h2)⟩
    m4 := fun h1 => h.m4 (bk 4 h1 (by omega))
    m5 := fun _ => rfl
    a1 := fun h1 => by obtain ⟨G, e, f, k⟩ := h.a1 (bk 11 h1 (by omega)); exact ⟨G, e, f, fun h2 => k (fn 13 h2)⟩
    a2 := fun h1 => by obtain ⟨G, e, f, k⟩ := h.a2 (bk 12 h1 (by omega)); exact ⟨G, e, f, fun h2 => k (fn 14 h2)⟩
    c := fun h1 => (by obtain ⟨al, ql, ab, qb, e1, e2, e3, e4, e5, e6, e7, e8, e9⟩ := h.c (bk 6 h1 (by omega)); exact ⟨al, ql, ab, qb, e1, e2, e3, fun h2 => e4 (bk 7 h2 (by omega)), fun h2 => e5 (bk 8 h2 (by omega)), fun h2 => e6 (bk 9 h2 (by omega)), fun h2 => e7 (bk 10 h2 (by omega)), fun h2 => by obtain ⟨G, f1, f2, f3, f4⟩ := e8 (bk 11 h2 (by omega)); exact ⟨G, f1, f2, f3, fun h3 => f4 (bk 13 h3 (by omega))⟩, fun h2 => by obtain ⟨G, f1, f2, f3, f4⟩ := e9 (bk 12 h2 (by omega)); exact ⟨G, f1, f2, f3, fun h3 => f4 (bk 14 h3 (by omega))⟩⟩)
    x15 := fun h1 => h.x15 (bk 15 h1 (by omega))
  }
theorem J5.op6 (h : J5 p l s15 s16 s17 s53 s54 s55 s56 s57 s58 s59 s60 s61 s62 s63 w) (hu : ¬ LL l 6) (hd0 : LL l 0) (hd3 : LL l 3) (al : Option Addr) (ql : Nat) (ab : Option Addr) (qb : Nat) (hl : LnS w (.slice al 2 ql) [(p.x, p.I, 5), (p.y, p.K, 9)]) (hs : Sl .i64 w (.slice ab 2 qb) [p.x, p.y]) (h11 : LL l 11 → ∃ G, s15 = ptrV G ∧ awayS al G ∧ awayS ab G) (h12 : LL l 12 → ∃ G, s16 = ptrV G ∧ awayS al G ∧ awayS ab G) : J5 p (l.setIfInBounds 6 true) s15 s16 s17 s53 s54 s55 s56 s57 s58 s59 (tupV p al ql ab qb) s61 s62 s63 w := by
  have hL := fun j => ll_set (l := l) (i := 6) h.sz (by omega) j
  have bk : ∀ j, LL (l.setIfInBounds 6 true) j → j ≠ 6 → LL l j := fun j h1 h2 => ((hL j).1 h1).resolve_left h2
  have fw : ∀ j, LL l j → LL (l.setIfInBounds 6 true) j := fun j h1 => (hL j).2 (.inr h1)
  have fn : ∀ j, ¬ LL (l.setIfInBounds 6 true) j → ¬ LL l j := fun j h1 h2 => h1 (fw j h2)
  exact {
    sz := by simpa using h.sz
    bel := h.bel
    d6 := fun _ => ⟨fw 0 hd0, fw 3 hd3⟩
    d7 := fun _ => (hL 6).2 (.inl rfl)
    d8 := fun h1 => fw 7 (h.d8 (bk 8 h1 (by omega)))
    d9 := fun h1 => fw 7 (h.d9 (bk 9 h1 (by omega)))
    d10 := fun h1 => fw 7 (h.d10 (bk 10 h1 (by omega)))
    d13 := fun h1 => absurd (h.d13 (bk 13 h1 (by omega))).1 hu
    d14 := fun h1 => fw 13 (h.d14 (bk 14 h1 (by omega)))
    t := fun h1 => by obtain ⟨a, q, e, f⟩ := h.t (bk 0 h1 (by omega)); exact ⟨a, q, e, fun h2 => absurd ((hL 6).2 (.inl rfl)) h2⟩
    sp := fun h1 => h.sp (bk 1 h1 (by omega))
    ps := fun h1 => h.ps (bk 2 h1 (by omega))
    b := fun h1 => by obtain ⟨G, e, f⟩ := h.b (bk 3 h1 (by omega)); exact ⟨G, e, fun h2 => absurd ((hL 6).2 (.inl rfl)) h2⟩
    m4 := fun h1 => h.m4 (bk 4 h1 (by omega))
    m5 := fun h1 => h.m5 (bk 5 h1 (by omega))
    a1 := fun h1 => by obtain ⟨G, e, f, k⟩ := h.a1 (bk 11 h1 (by omega)); exact ⟨G, e, f, fun h2 => k (fn 13 h2)⟩
    a2 := fun h1 => by obtain ⟨G, e, f, k⟩ := h.a2 (bk 12 h1 (by omega)); exact ⟨G, e, f, fun h2 => k (fn 14 h2)⟩
    c := fun _ => ⟨al, ql, ab, qb, rfl, hl, hs, fun h2 => absurd (h.d7 (bk 7 h2 (by omega))) hu, fun h2 => absurd (h.d7 (h.d8 (bk 8 h2 (by omega)))) hu, fun h2 => absurd (h.d7 (h.d9 (bk 9 h2 (by omega)))) hu, fun h2 => absurd (h.d7 (h.d10 (bk 10 h2 (by omega)))) hu, fun h2 => by obtain ⟨G, f1, f2, f3⟩ := h11 (bk 11 h2 (by omega)); exact ⟨G, f1, f2, f3, fun h3 => absurd (h.d13 (bk 13 h3 (by omega))).1 hu⟩, fun h2 => by obtain ⟨G, f1, f2, f3⟩ := h12 (bk 12 h2 (by omega)); exact ⟨G, f1, f2, f3, fun h3 => absurd (h.d13 (h.d14 (bk 14 h3 (by omega)))).1 hu⟩⟩
    x15 := fun h1 => h.x15 (bk 15 h1 (by omega))
  }
theorem J5.op7 (h : J5 p l s15 s16 s17 s53 s54 s55 s56 s57 s58 s59 s60 s61 s62 s63 w) (hu : ¬ LL l 7) (hd6 : LL l 6) : J5 p (l.setIfInBounds 7 true) s15 s16 s17 s60 s54 s55 s56 s57 s58 s59 s60 s61 s62 s63 w := by
  have hL := fun j => ll_set (l := l) (i := 7) h.sz (by omega) j
  have bk : ∀ j, LL (l.setIfInBounds 7 true) j → j ≠ 7 → LL l j := fun j h1 h2 => ((hL j).1 h1).resolve_left h2
  have fw : ∀ j, LL l j → LL (l.setIfInBounds 7 true) j := fun j h1 => (hL j).2 (.inr h1)
  have fn : ∀ j, ¬ LL (l.setIfInBounds 7 true) j → ¬ LL l j := fun j h1 h2 => h1 (fw j h2)
  exact {
    sz := by simpa using h.sz
    bel := h.bel
    d6 := fun h1 => by have := h.d6 (bk 6 h1 (by omega)); exact ⟨fw 0 this.1, fw 3 this.2⟩
    d7 := fun _ => fw 6 hd6
    d8 := fun _ => (hL 7).2 (.inl rfl)
    d9 := fun _ => (hL 7).2 (.inl rfl)
    d10 := fun _ => (hL 7).2 (.inl rfl)
    d13 := fun h1 => by have := h.d13 (bk 13 h1 (by omega)); exact ⟨fw 6 this.1, fw 11 this.2.1, fw 12 this.2.2⟩
    d14 := fun h1 => fw 13 (h.d14 (bk 14 h1 (by omega)))
    t := fun h1 => by obtain ⟨a, q, e, f⟩ := h.t (bk 0 h1 (by omega)); exact ⟨a, q, e, fun h2 => f (fn 6 h2)⟩
    sp := fun h1 => h.sp (bk 1 h1 (by omega))
    ps := fun h1 => h.ps (bk 2 h1 (by omega))
    b := fun h1 => by obtain ⟨G, e, f⟩ := h.b (bk 3 h1 (by omega)); exact ⟨G, e, fun h2 => f (fn 6 h2)⟩
    m4 := fun h1 => h.m4 (bk 4 h1 (by omega))
    m5 := fun h1 => h.m5 (bk 5 h1 (by omega))
    a1 := fun h1 => by obtain ⟨G, e, f, k⟩ := h.a1 (bk 11 h1 (by omega)); exact ⟨G, e, f, fun h2 => k (fn 13 h2)⟩
    a2 := fun h1 => by obtain ⟨G, e, f, k⟩ := h.a2 (bk 12 h1 (by omega)); exact ⟨G, e, f, fun h2 => k (fn 14 h2)⟩
    c := fun h1 => (by obtain ⟨al, ql, ab, qb, e1, e2, e3, e4, e5, e6, e7, e8, e9⟩ := h.c (bk 6 h1 (by omega)); exact ⟨al, ql, ab, qb, e1, e2, e3, fun _ => e1, fun h2 => e5 (bk 8 h2 (by omega)), fun h2 => e6 (bk 9 h2 (by omega)), fun h2 => e7 (bk 10 h2 (by omega)), fun h2 => by obtain ⟨G, f1, f2, f3, f4⟩ := e8 (bk 11 h2 (by omega)); exact ⟨G, f1, f2, f3, fun h3 => f4 (bk 13 h3 (by omega))⟩, fun h2 => by obtain ⟨G, f1, f2, f3, f4⟩ := e9 (bk 12 h2 (by omega)); exact ⟨G, f1, f2, f3, fun h3 => f4 (bk 14 h3 (by omega))⟩⟩)
    x15 := fun h1 => h.x15 (bk 15 h1 (by omega))
  }
theorem J5.op8 (h : J5 p l s15 s16 s17 s53 s54 s55 s56 s57 s58 s59 s60 s61 s62 s63 w) (hu : ¬ LL l 8) (hd7 : LL l 7) (v : Value) (hv : ∀ al ql ab qb, s53 = tupV p al ql ab qb → v = .agg (stmL p al ql).toArray) : J5 p (l.setIfInBounds 8 true) s15 s16 s17 s53 s54 s55 s56 s57 s58 s59 s60 v s62 s63 w := by
  have hL := fun j => ll_set (l := l) (i := 8) h.sz (by omega) j
  have bk : ∀ j, LL (l.setIfInBounds 8 true) j → j ≠ 8 → LL l j := fun j h1 h2 => ((hL j).1 h1).resolve_left h2
  have fw : ∀ j, LL l j → LL (l.setIfInBounds 8 true) j := fun j h1 => (hL j).2 (.inr h1)
  have fn : ∀ j, ¬ LL (l.setIfInBounds 8 true) j → ¬ LL l j := fun j h1 h2 => h1 (fw j h2)
  exact {
    sz := by simpa using h.sz
    bel := h.bel
    d6 := fun h1 => by have := h.d6 (bk 6 h1 (by omega)); exact ⟨fw 0 this.1, fw 3 this.2⟩
    d7 := fun h1 => fw 6 (h.d7 (bk 7 h1 (by omega)))
    d8 := fun _ => fw 7 hd7
    d9 := fun h1 => fw 7 (h.d9 (bk 9 h1 (by omega)))
    d10 := fun h1 => fw 7 (h.d10 (bk 10 h1 (by omega)))
    d13 := fun h1 => by have := h.d13 (bk 13 h1 (by omega)); exact ⟨fw 6 this.1, fw 11 this.2.1, fw 12 this.2.2⟩
    d14 := fun h1 => fw 13 (h.d14 (bk 14 h1 (by omega)))
    t := fun h1 => by obtain ⟨a, q, e, f⟩ := h.t (bk 0 h1 (by omega)); exact ⟨a, q, e, fun h2 => f (fn 6 h2)⟩
    sp := fun h1 => h.sp (bk 1 h1 (by omega))
    ps := fun h1 => h.ps (bk 2 h1 (by omega))
    b := fun h1 => by obtain ⟨G, e, f⟩ := h.b (bk 3 h1 (by omega)); exact ⟨G, e, fun h2 => f (fn 6 h2)⟩
    m4 := fun h1 => h.m4 (bk 4 h1 (by omega))
    m5 := fun h1 => h.m5 (bk 5 h1 (by omega))
    a1 := fun h1 => by obtain ⟨G, e, f, k⟩ := h.a1 (bk 11 h1 (by omega)); exact ⟨G, e, f, fun h2 => k (fn 13 h2)⟩
    a2 := fun h1 => by obtain ⟨G, e, f, k⟩ := h.a2 (bk 12 h1 (by omega)); exact ⟨G, e, f, fun h2 => k (fn 14 h2)⟩
    c := fun h1 => (by obtain ⟨al, ql, ab, qb, e1, e2, e3, e4, e5, e6, e7, e8, e9⟩ := h.c (bk 6 h1 (by omega)); exact ⟨al, ql, ab, qb, e1, e2, e3, fun h2 => e4 (bk 7 h2 (by omega)), fun _ => hv al ql ab qb (e4 hd7), fun h2 => e6 (bk 9 h2 (by omega)), fun h2 => e7 (bk 10 h2 (by omega)), fun h2 => by obtain ⟨G, f1, f2, f3, f4⟩ := e8 (bk 11 h2 (by omega)); exact ⟨G, f1, f2, f3, fun h3 => f4 (bk 13 h3 (by omega))⟩, fun h2 => by obtain ⟨G, f1, f2, f3, f4⟩ := e9 (bk 12 h2 (by omega)); exact ⟨G, f1, f2, f3, fun h3 => f4 (bk 14 h3 (by omega))⟩⟩)
    x15 := fun h1 => h.x15 (bk 15 h1 (by omega))
  }
theorem J5.op9 (h : J5 p l s15 s16 s17 s53 s54 s55 s56 s57 s58 s59 s60 s61 s62 s63 w) (hu : ¬ LL l 9) (hd7 : LL l 7) (v : Value) (hv : ∀ al ql ab qb, s53 = tupV p al ql ab qb → v = .agg (posL p ab qb).toArray) : J5 p (l.setIfInBounds 9 true) s15 s16 s17 s53 s54 s55 s56 s57 s58 s59 s60 s61 v s63 w := by
  have hL := fun j => ll_set (l := l) (i := 9) h.sz (by omega) j
  have bk : ∀ j, LL (l.setIfInBounds 9 true) j → j ≠ 9 → LL l j := fun j h1 h2 => ((hL j).1 h1).resolve_left h2
  have fw : ∀ j, LL l j → LL (l.setIfInBounds 9 true) j := fun j h1 => (hL j).2 (.inr h1)
  have fn : ∀ j, ¬ LL (l.setIfInBounds 9 true) j → ¬ LL l j := fun j h1 h2 => h1 (fw j h2)
  exact {
    sz := by simpa using h.sz
    bel := h.bel
    d6 := fun h1 => by have := h.d6 (bk 6 h1 (by omega)); exact ⟨fw 0 this.1, fw 3 this.2⟩
    d7 := fun h1 => fw 6 (h.d7 (bk 7 h1 (by omega)))
    d8 := fun h1 => fw 7 (h.d8 (bk 8 h1 (by omega)))
    d9 := fun _ => fw 7 hd7
    d10 := fun h1 => fw 7 (h.d10 (bk 10 h1 (by omega)))
    d13 := fun h1 => by have := h.d13 (bk 13 h1 (by omega)); exact ⟨fw 6 this.1, fw 11 this.2.1, fw 12 this.2.2⟩
    d14 := fun h1 => fw 13 (h.d14 (bk 14 h1 (by omega)))
    t := fun h1 => by obtain ⟨a, q, e, f⟩ := h.t (bk 0 h1 (by omega)); exact ⟨a, q, e, fun h2 => f (fn 6 h2)⟩
    sp := fun h1 => h.sp (bk 1 h1 (by omega))
    ps := fun h1 => h.ps (bk 2 h1 (by omega))
    b := fun h1 => by obtain ⟨G, e, f⟩ := h.b (bk 3 h1 (by omega)); exact ⟨G, e, fun h2 => f (fn 6 h2)⟩
    m4 := fun h1 => h.m4 (bk 4 h1 (by omega))
    m5 := fun h1 => h.m5 (bk 5 h1 (by omega))
    a1 := fun h1 => by obtain ⟨G, e, f, k⟩ := h.a1 (bk 11 h1 (by omega)); exact ⟨G, e, f, fun h2 => k (fn 13 h2)⟩
    a2 := fun h1 => by obtain ⟨G, e, f, k⟩ := h.a2 (bk 12 h1 (by omega)); exact ⟨G, e, f, fun h2 => k (fn 14 h2)⟩
    c := fun h1 => (by obtain ⟨al, ql, ab, qb, e1, e2, e3, e4, e5, e6, e7, e8, e9⟩ := h.c (bk 6 h1 (by omega)); exact ⟨al, ql, ab, qb, e1, e2, e3, fun h2 => e4 (bk 7 h2 (by omega)), fun h2 => e5 (bk 8 h2 (by omega)), fun _ => hv al ql ab qb (e4 hd7), fun h2 => e7 (bk 10 h2 (by omega)), fun h2 => by obtain ⟨G, f1, f2, f3, f4⟩ := e8 (bk 11 h2 (by omega)); exact ⟨G, f1, f2, f3, fun h3 => f4 (bk 13 h3 (by omega))⟩, fun h2 => by obtain ⟨G, f1, f2, f3, f4⟩ := e9 (bk 12 h2 (by omega)); exact ⟨G, f1, f2, f3, fun h3 => f4 (bk 14 h3 (by omega))⟩⟩)
    x15 := fun h1 => h.x15 (bk 15 h1 (by omega))
  }
theorem J5.op10 (h : J5 p l s15 s16 s17 s53 s54 s55 s56 s57 s58 s59 s60 s61 s62 s63 w) (hu : ¬ LL l 10) (hd7 : LL l 7) (v : Value) (hv : ∀ al ql ab qb, s53 = tupV p al ql ab qb → v = .int .i64 0) : J5 p (l.setIfInBounds 10 true) s15 s16 s17 s53 s54 s55 s56 s57 s58 s59 s60 s61 s62 v w := by
  have hL := fun j => ll_set (l := l) (i := 10) h.sz (by omega) j
  have bk : ∀ j, LL (l.setIfInBounds 10 true) j → j ≠ 10 → LL l j := fun j h1 h2 => ((hL j).1 h1).resolve_left h2
  have fw : ∀ j, LL l j → LL (l.setIfInBounds 10 true) j := fun j h1 => (hL j).2 (.inr h1)
  have fn : ∀ j, ¬ LL (l.setIfInBounds 10 true) j → ¬ LL l j := fun j h1 h2 => h1 (fw j h2)
  exact {
    sz := by simpa using h.sz
    bel := h.bel
    d6 := fun h1 => by have := h.d6 (bk 6 h1 (by omega)); exact ⟨fw 0 this.1, fw 3 this.2⟩
    d7 := fun h1 => fw 6 (h.d7 (bk 7 h1 (by omega)))
    d8 := fun h1 => fw 7 (h.d8 (bk 8 h1 (by omega)))
    d9 := fun h1 => fw 7 (h.d9 (bk 9 h1 (by omega)))
    d10 := fun _ => fw 7 hd7
    d13 := fun h1 => by have := h.d13 (bk 13 h1 (by omega)); exact ⟨fw 6 this.1, fw 11 this.2.1, fw 12 this.2.2⟩
    d14 := fun h1 => fw 13 (h.d14 (bk 14 h1 (by omega)))
    t := fun h1 => by obtain ⟨a, q, e, f⟩ := h.t (bk 0 h1 (by omega)); exact ⟨a, q, e, fun h2 => f (fn 6 h2)⟩
    sp := fun h1 => h.sp (bk 1 h1 (by omega))
    ps := fun h1 => h.ps (bk 2 h1 (by omega))
    b := fun h1 => by obtain ⟨G, e, f⟩ := h.b (bk 3 h1 (by omega)); exact ⟨G, e, fun h2 => f (fn 6 h2)⟩
    m4 := fun h1 => h.m4 (bk 4 h1 (by omega))
    m5 := fun h1 => h.m5 (bk 5 h1 (by omega))
    a1 := fun h1 => by obtain ⟨G, e, f, k⟩ := h.a1 (bk 11 h1 (by omega)); exact ⟨G, e, f, fun h2 => k (fn 13 h2)⟩
    a2 := fun h1 => by obtain ⟨G, e, f, k⟩ := h.a2 (bk 12 h1 (by omega)); exact ⟨G, e, f, fun h2 => k (fn 14 h2)⟩
    c := fun h1 => (by obtain ⟨al, ql, ab, qb, e1, e2, e3, e4, e5, e6, e7, e8, e9⟩ := h.c (bk 6 h1 (by omega)); exact ⟨al, ql, ab, qb, e1, e2, e3, fun h2 => e4 (bk 7 h2 (by omega)), fun h2 => e5 (bk 8 h2 (by omega)), fun h2 => e6 (bk 9 h2 (by omega)), fun _ => hv al ql ab qb (e4 hd7), fun h2 => by obtain ⟨G, f1, f2, f3, f4⟩ := e8 (bk 11 h2 (by omega)); exact ⟨G, f1, f2, f3, fun h3 => f4 (bk 13 h3 (by omega))⟩, fun h2 => by obtain ⟨G, f1, f2, f3, f4⟩ := e9 (bk 12 h2 (by omega)); exact ⟨G, f1, f2, f3, fun h3 => f4 (bk 14 h3 (by omega))⟩⟩)
    x15 := fun h1 => h.x15 (bk 15 h1 (by omega))
  }
theorem J5.op11 (h : J5 p l s15 s16 s17 s53 s54 s55 s56 s57 s58 s59 s60 s61 s62 s63 w) (hu : ¬ LL l 11) (G : Nat) (hG : p.W0.heap.size ≤ G) (hb : Blk w G 51 z9) (haw : LL l 6 → ∀ al ql ab qb, s60 = tupV p al ql ab qb → awayS al G ∧ awayS ab G) : J5 p (l.setIfInBounds 11 true) (ptrV G) s16 s17 s53 s54 s55 s56 s57 s58 s59 s60 s61 s62 s63 w := by
  have hL := fun j => ll_set (l := l) (i := 11) h.sz (by omega) j
  have bk : ∀ j, LL (l.setIfInBounds 11 true) j → j ≠ 11 → LL l j := fun j h1 h2 => ((hL j).1 h1).resolve_left h2
  have fw : ∀ j, LL l j → LL (l.setIfInBounds 11 true) j := fun j h1 => (hL j).2 (.inr h1)
  have fn : ∀ j, ¬ LL (l.setIfInBounds 11 true) j → ¬ LL l j := fun j h1 h2 => h1 (fw j h2)
  exact {
    sz := by simpa using h.sz
    bel := h.bel
    d6 := fun h1 => by have := h.d6 (bk 6 h1 (by omega)); exact ⟨fw 0 this.1, fw 3 this.2⟩
    d7 := fun h1 => fw 6 (h.d7 (bk 7 h1 (by omega)))
    d8 := fun h1 => fw 7 (h.d8 (bk 8 h1 (by omega)))
    d9 := fun h1 => fw 7 (h.d9 (bk 9 h1 (by omega)))
    d10 := fun h1 => fw 7 (h.d10 (bk 10 h1 (by omega)))
    d13 := fun h1 => absurd (h.d13 (bk 13 h1 (by omega))).2.1 hu
    d14 := fun h1 => fw 13 (h.d14 (bk 14 h1 (by omega)))
    t := fun h1 => by obtain ⟨a, q, e, f⟩ := h.t (bk 0 h1 (by omega)); exact ⟨a, q, e, fun h2 => f (fn 6 h2)⟩
    sp := fun h1 => h.sp (bk 1 h1 (by omega))
    ps := fun h1 => h.ps (bk 2 h1 (by omega))
    b := fun h1 => by obtain ⟨G, e, f⟩ := h.b (bk 3 h1 (by omega)); exact ⟨G, e, fun h2 => f (fn 6 h2)⟩
    m4 := fun h1 => h.m4 (bk 4 h1 (by omega))
    m5 := fun h1 => h.m5 (bk 5 h1 (by omega))
    a1 := fun _ => ⟨G, rfl, hG, fun _ => hb⟩
    a2 := fun h1 => by obtain ⟨G, e, f, k⟩ := h.a2 (bk 12 h1 (by omega)); exact ⟨G, e, f, fun h2 => k (fn 14 h2)⟩
    c := fun h1 => (by obtain ⟨al, ql, ab, qb, e1, e2, e3, e4, e5, e6, e7, e8, e9⟩ := h.c (bk 6 h1 (by omega)); exact ⟨al, ql, ab, qb, e1, e2, e3, fun h2 => e4 (bk 7 h2 (by omega)), fun h2 => e5 (bk 8 h2 (by omega)), fun h2 => e6 (bk 9 h2 (by omega)), fun h2 => e7 (bk 10 h2 (by omega)), fun _ => ⟨G, rfl, (haw (bk 6 h1 (by omega)) al ql ab qb e1).1, (haw (bk 6 h1 (by omega)) al ql ab qb e1).2, fun h3 => absurd (h.d13 (bk 13 h3 (by omega))).2.1 hu⟩, fun h2 => by obtain ⟨G, f1, f2, f3, f4⟩ := e9 (bk 12 h2 (by omega)); exact ⟨G, f1, f2, f3, fun h3 => f4 (bk 14 h3 (by omega))⟩⟩)
    x15 := fun h1 => h.x15 (bk 15 h1 (by omega))
  }
theorem J5.op12 (h : J5 p l s15 s16 s17 s53 s54 s55 s56 s57 s58 s59 s60 s61 s62 s63 w) (hu : ¬ LL l 12) (G : Nat) (hG : p.W0.heap.size ≤ G) (hb : Blk w G 46 z3) (haw : LL l 6 → ∀ al ql ab qb, s60 = tupV p al ql ab qb → awayS al G ∧ awayS ab G) : J5 p (l.setIfInBounds 12 true) s15 (ptrV G) s17 s53 s54 s55 s56 s57 s58 s59 s60 s61 s62 s63 w := by
  have hL := fun j => ll_set (l := l) (i := 12) h.sz (by omega) j
  have bk : ∀ j, LL (l.setIfInBounds 12 true) j → j ≠ 12 → LL l j := fun j h1 h2 => ((hL j).1 h1).resolve_left h2
  have fw : ∀ j, LL l j → LL (l.setIfInBounds 12 true) j := fun j h1 => (hL j).2 (.inr h1)
  have fn : ∀ j, ¬ LL (l.setIfInBounds 12 true) j → ¬ LL l j := fun j h1 h2 => h1 (fw j h2)
  exact {
    sz := by simpa using h.sz
    bel := h.bel
    d6 := fun h1 => by have := h.d6 (bk 6 h1 (by omega)); exact ⟨fw 0 this.1, fw 3 this.2⟩
    d7 := fun h1 => fw 6 (h.d7 (bk 7 h1 (by omega)))
    d8 := fun h1 => fw 7 (h.d8 (bk 8 h1 (by omega)))
    d9 := fun h1 => fw 7 (h.d9 (bk 9 h1 (by omega)))
    d10 := fun h1 => fw 7 (h.d10 (bk 10 h1 (by omega)))
    d13 := fun h1 => absurd (h.d13 (bk 13 h1 (by omega))).2.2 hu
    d14 := fun h1 => fw 13 (h.d14 (bk 14 h1 (by omega)))
    t := fun h1 => by obtain ⟨a, q, e, f⟩ := h.t (bk 0 h1 (by omega)); exact ⟨a, q, e, fun h2 => f (fn 6 h2)⟩
    sp := fun h1 => h.sp (bk 1 h1 (by omega))
    ps := fun h1 => h.ps (bk 2 h1 (by omega))
    b := fun h1 => by obtain ⟨G, e, f⟩ := h.b (bk 3 h1 (by omega)); exact ⟨G, e, fun h2 => f (fn 6 h2)⟩
    m4 := fun h1 => h.m4 (bk 4 h1 (by omega))
    m5 := fun h1 => h.m5 (bk 5 h1 (by omega))
    a1 := fun h1 => by obtain ⟨G, e, f, k⟩ := h.a1 (bk 11 h1 (by omega)); exact ⟨G, e, f, fun h2 => k (fn 13 h2)⟩
    a2 := fun _ => ⟨G, rfl, hG, fun _ => hb⟩
    c := fun h1 => (by obtain ⟨al, ql, ab, qb, e1, e2, e3, e4, e5, e6, e7, e8, e9⟩ := h.c (bk 6 h1 (by omega)); exact ⟨al, ql, ab, qb, e1, e2, e3, fun h2 => e4 (bk 7 h2 (by omega)), fun h2 => e5 (bk 8 h2 (by omega)), fun h2 => e6 (bk 9 h2 (by omega)), fun h2 => e7 (bk 10 h2 (by omega)), fun h2 => by obtain ⟨G, f1, f2, f3, f4⟩ := e8 (bk 11 h2 (by omega)); exact ⟨G, f1, f2, f3, fun h3 => f4 (bk 13 h3 (by omega))⟩, fun _ => ⟨G, rfl, (haw (bk 6 h1 (by omega)) al ql ab qb e1).1, (haw (bk 6 h1 (by omega)) al ql ab qb e1).2, fun h3 => absurd (h.d13 (h.d14 (bk 14 h3 (by omega)))).2.2 hu⟩⟩)
    x15 := fun h1 => h.x15 (bk 15 h1 (by omega))
  }
theorem J5.op15 (h : J5 p l s15 s16 s17 s53 s54 s55 s56 s57 s58 s59 s60 s61 s62 s63 w) (hu : ¬ LL l 15) (hd10 : LL l 10) : J5 p (l.setIfInBounds 15 true) s15 s16 (.int .i64 0) s53 s54 s55 s56 s57 s58 s59 s60 s61 s62 s63 w := by
  have hL := fun j => ll_set (l := l) (i := 15) h.sz (by omega) j
  have bk : ∀ j, LL (l.setIfInBounds 15 true) j → j ≠ 15 → LL l j := fun j h1 h2 => ((hL j).1 h1).resolve_left h2
  have fw : ∀ j, LL l j → LL (l.setIfInBounds 15 true) j := fun j h1 => (hL j).2 (.inr h1)
  have fn : ∀ j, ¬ LL (l.setIfInBounds 15 true) j → ¬ LL l j := fun j h1 h2 => h1 (fw j h2)
  exact {
    sz := by simpa using h.sz
    bel := h.bel
    d6 := fun h1 => by have := h.d6 (bk 6 h1 (by omega)); exact ⟨fw 0 this.1, fw 3 this.2⟩
    d7 := fun h1 => fw 6 (h.d7 (bk 7 h1 (by omega)))
    d8 := fun h1 => fw 7 (h.d8 (bk 8 h1 (by omega)))
    d9 := fun h1 => fw 7 (h.d9 (bk 9 h1 (by omega)))
    d10 := fun h1 => fw 7 (h.d10 (bk 10 h1 (by omega)))
    d13 := fun h1 => by have := h.d13 (bk 13 h1 (by omega)); exact ⟨fw 6 this.1, fw 11 this.2.1, fw 12 this.2.2⟩
    d14 := fun h1 => fw 13 (h.d14 (bk 14 h1 (by omega)))
    t := fun h1 => by obtain ⟨a, q, e, f⟩ := h.t (bk 0 h1 (by omega)); exact ⟨a, q, e, fun h2 => f (fn 6 h2)⟩
    sp := fun h1 => h.sp (bk 1 h1 (by omega))
    ps := fun h1 => h.ps (bk 2 h1 (by omega))
    b := fun h1 => by obtain ⟨G, e, f⟩ := h.b (bk 3 h1 (by omega)); exact ⟨G, e, fun h2 => f (fn 6 h2)⟩
    m4 := fun h1 => h.m4 (bk 4 h1 (by omega))
    m5 := fun h1 => h.m5 (bk 5 h1 (by omega))
    a1 := fun h1 => by obtain ⟨G, e, f, k⟩ := h.a1 (bk 11 h1 (by omega)); exact ⟨G, e, f, fun h2 => k (fn 13 h2)⟩
    a2 := fun h1 => by obtain ⟨G, e, f, k⟩ := h.a2 (bk 12 h1 (by omega)); exact ⟨G, e, f, fun h2 => k (fn 14 h2)⟩
    c := fun h1 => (by obtain ⟨al, ql, ab, qb, e1, e2, e3, e4, e5, e6, e7, e8, e9⟩ := h.c (bk 6 h1 (by omega)); exact ⟨al, ql, ab, qb, e1, e2, e3, fun h2 => e4 (bk 7 h2 (by omega)), fun h2 => e5 (bk 8 h2 (by omega)), fun h2 => e6 (bk 9 h2 (by omega)), fun h2 => e7 (bk 10 h2 (by omega)), fun h2 => by obtain ⟨G, f1, f2, f3, f4⟩ := e8 (bk 11 h2 (by omega)); exact ⟨G, f1, f2, f3, fun h3 => f4 (bk 13 h3 (by omega))⟩, fun h2 => by obtain ⟨G, f1, f2, f3, f4⟩ := e9 (bk 12 h2 (by omega)); exact ⟨G, f1, f2, f3, fun h3 => f4 (bk 14 h3 (by omega))⟩⟩)
    x15 := fun _ => rfl
  }
theorem away_ne {a : Option Addr} {n q G : Nat} (h : awayS a G) : ∀ b o m c, (.slice a n q : Value) = .slice (some ⟨b, o, none⟩) m c → 0 < m → b ≠ G := fun b o m c e _ => by
  injection e with e1
  exact h b o e1
theorem J5.s13 (h : J5 p l s15 s16 s17 s53 s54 s55 s56 s57 s58 s59 s60 s61 s62 s63 w) (hu : ¬ LL l 13) (hd6 : LL l 6) (hd8 : LL l 8) (hd11 : LL l 11) (hd12 : LL l 12) :
    ∃ G al ql, s15 = ptrV G ∧ s61 = .agg (stmL p al ql).toArray ∧ Blk w G 51 z9 ∧ J5 p (l.setIfInBounds 13 true) s15 s16 s17 s53 s54 s55 s56 s57 s58 s59 s60 s61 s62 s63 (((((((((w.setCell ⟨G, 0, none⟩ (.int .i64 2)).setCell ⟨G, 1, none⟩ (.int .i64 10988)).setCell ⟨G, 2, none⟩ (.int .i64 11016)).setCell ⟨G, 3, none⟩ (.int .i64 11036)).setCell ⟨G, 4, none⟩ (.slice al 2 ql)).setCell ⟨G, 5, none⟩ (.int .i64 p.T)).setCell ⟨G, 6, none⟩ (.int .i64 p.C)).setCell ⟨G, 7, none⟩ (.int .i64 p.M)).setCell ⟨G, 8, none⟩ (.bool p.g)) := by
  have hL := fun j => ll_set (l := l) (i := 13) h.sz (by omega) j
  have bk : ∀ j, LL (l.setIfInBounds 13 true) j → j ≠ 13 → LL l j := fun j h1 h2 => ((hL j).1 h1).resolve_left h2
  have fw : ∀ j, LL l j → LL (l.setIfInBounds 13 true) j := fun j h1 => (hL j).2 (.inr h1)
  have h14 : ¬ LL l 14 := fun h1 => hu (h.d14 h1)
  obtain ⟨G, g1, g2, g3⟩ := h.a1 hd11
  have g3 := g3 hu
  obtain ⟨G', k1, k2, k3⟩ := h.a2 hd12
  have k3 := k3 h14
  have hne : G' ≠ G := fun e => by
    subst e
    exact absurd (blk_type g3 k3) (by decide)
  obtain ⟨al, ql, ab, qb, e1, e2, e3, e4, e5, e6, e7, e8, e9⟩ := h.c hd6
  obtain ⟨G1, f1, f2, f3, f4⟩ := e8 hd11
  obtain rfl : G = G1 := ptrV_inj (g1.symm.trans f1)
  obtain ⟨G2, f5, f6, f7, f8⟩ := e9 hd12
  obtain rfl : G' = G2 := ptrV_inj (k1.symm.trans f5)
  refine ⟨G, al, ql, g1, e5 hd8, g3, ?_⟩
  exact {
    sz := by simpa using h.sz
    bel := ((((((((h.bel.setCell g2 _).setCell g2 _).setCell g2 _).setCell g2 _).setCell g2 _).setCell g2 _).setCell g2 _).setCell g2 _).setCell g2 _
    d6 := fun h1 => by have := h.d6 (bk 6 h1 (by omega)); exact ⟨fw 0 this.1, fw 3 this.2⟩
    d7 := fun h1 => fw 6 (h.d7 (bk 7 h1 (by omega)))
    d8 := fun h1 => fw 7 (h.d8 (bk 8 h1 (by omega)))
    d9 := fun h1 => fw 7 (h.d9 (bk 9 h1 (by omega)))
    d10 := fun h1 => fw 7 (h.d10 (bk 10 h1 (by omega)))
    d13 := fun _ => ⟨fw 6 hd6, fw 11 hd11, fw 12 hd12⟩
    d14 := fun _ => (hL 13).2 (.inl rfl)
    t := fun h1 => (by obtain ⟨a, q, e, f⟩ := h.t (bk 0 h1 (by omega)); exact ⟨a, q, e, fun h2 => absurd (fw 6 hd6) h2⟩)
    sp := fun h1 => h.sp (bk 1 h1 (by omega))
    ps := fun h1 => h.ps (bk 2 h1 (by omega))
    b := fun h1 => (by obtain ⟨G, e, f⟩ := h.b (bk 3 h1 (by omega)); exact ⟨G, e, fun h2 => absurd (fw 6 hd6) h2⟩)
    m4 := fun h1 => h.m4 (bk 4 h1 (by omega))
    m5 := fun h1 => h.m5 (bk 5 h1 (by omega))
    a1 := fun _ => ⟨G, g1, g2, fun h2 => absurd ((hL 13).2 (.inl rfl)) h2⟩
    a2 := fun _ => ⟨G', k1, k2, fun _ => k3.s9 hne _ _ _ _ _ _ _ _ _⟩
    c := fun _ => ⟨al, ql, ab, qb, e1, e2.s9 (away_ne f2) _ _ _ _ _ _ _ _ _, e3.s9 (away_ne f3) _ _ _ _ _ _ _ _ _, fun h2 => e4 (bk 7 h2 (by omega)), fun h2 => e5 (bk 8 h2 (by omega)), fun h2 => e6 (bk 9 h2 (by omega)), fun h2 => e7 (bk 10 h2 (by omega)), fun _ => ⟨G, g1, f2, f3, fun _ => ((((((((g3.set 0 _).set 1 _).set 2 _).set 3 _).set 4 _).set 5 _).set 6 _).set 7 _).set 8 _⟩, fun _ => ⟨G', k1, f6, f7, fun h3 => absurd (bk 14 h3 (by omega)) h14⟩⟩
    x15 := fun h1 => h.x15 (bk 15 h1 (by omega))
  }
theorem J5.s14 (h : J5 p l s15 s16 s17 s53 s54 s55 s56 s57 s58 s59 s60 s61 s62 s63 w) (hu : ¬ LL l 14) (hd13 : LL l 13) (hd9 : LL l 9) :
    ∃ G ab qb, s16 = ptrV G ∧ s62 = .agg (posL p ab qb).toArray ∧ Blk w G 46 z3 ∧ J5 p (l.setIfInBounds 14 true) s15 s16 s17 s53 s54 s55 s56 s57 s58 s59 s60 s61 s62 s63 (((w.setCell ⟨G, 0, none⟩ (.slice ab 2 qb)).setCell ⟨G, 1, none⟩ (.int .i64 p.C)).setCell ⟨G, 2, none⟩ (.int .i64 p.M)) := by
  have hL := fun j => ll_set (l := l) (i := 14) h.sz (by omega) j
  have bk : ∀ j, LL (l.setIfInBounds 14 true) j → j ≠ 14 → LL l j := fun j h1 h2 => ((hL j).1 h1).resolve_left h2
  have fw : ∀ j, LL l j → LL (l.setIfInBounds 14 true) j := fun j h1 => (hL j).2 (.inr h1)
  obtain ⟨hd6, hd11, hd12⟩ := h.d13 hd13
  obtain ⟨G, g1, g2, g3⟩ := h.a2 hd12
  have g3 := g3 hu
  obtain ⟨al, ql, ab, qb, e1, e2, e3, e4, e5, e6, e7, e8, e9⟩ := h.c hd6
  obtain ⟨G1, f1, f2, f3, f4⟩ := e8 hd11
  have f4 := f4 hd13
  obtain ⟨G2, f5, f6, f7, f8⟩ := e9 hd12
  obtain rfl : G = G2 := ptrV_inj (g1.symm.trans f5)
  obtain ⟨G3, k1, k2, _⟩ := h.a1 hd11
  have hne : G1 ≠ G := fun e => by
    subst e
    exact absurd (blk_type f4 g3) (by decide)
  refine ⟨G, ab, qb, g1, e6 hd9, g3, ?_⟩
  exact {
    sz := by simpa using h.sz
    bel := ((h.bel.setCell g2 _).setCell g2 _).setCell g2 _
    d6 := fun h1 => by have := h.d6 (bk 6 h1 (by omega)); exact ⟨fw 0 this.1, fw 3 this.2⟩
    d7 := fun h1 => fw 6 (h.d7 (bk 7 h1 (by omega)))
    d8 := fun h1 => fw 7 (h.d8 (bk 8 h1 (by omega)))
    d9 := fun h1 => fw 7 (h.d9 (bk 9 h1 (by omega)))
    d10 := fun h1 => fw 7 (h.d10 (bk 10 h1 (by omega)))
    d13 := fun _ => ⟨fw 6 hd6, fw 11 hd11, fw 12 hd12⟩
    d14 := fun _ => fw 13 hd13
    t := fun h1 => (by obtain ⟨a, q, e, f⟩ := h.t (bk 0 h1 (by omega)); exact ⟨a, q, e, fun h2 => absurd (fw 6 hd6) h2⟩)
    sp := fun h1 => h.sp (bk 1 h1 (by omega))
    ps := fun h1 => h.ps (bk 2 h1 (by omega))
    b := fun h1 => (by obtain ⟨G, e, f⟩ := h.b (bk 3 h1 (by omega)); exact ⟨G, e, fun h2 => absurd (fw 6 hd6) h2⟩)
    m4 := fun h1 => h.m4 (bk 4 h1 (by omega))
    m5 := fun h1 => h.m5 (bk 5 h1 (by omega))
    a1 := fun _ => ⟨G3, k1, k2, fun h2 => absurd (fw 13 hd13) h2⟩
    a2 := fun _ => ⟨G, g1, g2, fun h2 => absurd ((hL 14).2 (.inl rfl)) h2⟩
    c := fun _ => ⟨al, ql, ab, qb, e1, e2.s3 (away_ne f6) _ _ _, e3.s3 (away_ne f7) _ _ _, fun h2 => e4 (bk 7 h2 (by omega)), fun h2 => e5 (bk 8 h2 (by omega)), fun h2 => e6 (bk 9 h2 (by omega)), fun h2 => e7 (bk 10 h2 (by omega)), fun _ => ⟨G1, f1, f2, f3, fun _ => f4.s3 hne _ _ _⟩, fun _ => ⟨G, g1, f6, f7, fun _ => ((g3.set 0 _).set 1 _).set 2 _⟩⟩
    x15 := fun h1 => h.x15 (bk 15 h1 (by omega))
  }
end Go.Proofs.Ytllblmoojohffaa
