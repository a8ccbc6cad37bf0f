/-
  No cell of these rows narrows 'for every input' (looked for: loops, veiled, ifaces, maps, wideKeys, modest, calm, conditions, laid).
  DERIVED. THE GIVEN ROWS OF THIS SEAT. 9 by the template 'for every input the law returns true; each argument reads behind the call as it read before'; 0 by the template 'total and deterministic' (their statements: YtfikdnmbnbkchaaTotals.lean).
  GIVEN WITH THE SEED: the statements are not yours to turn. If you find one false, say at which input.
  Laid BY PROGRAM, IN A SANDBOX (cutbox-rows.mjs): the forced cells as the released guide's own fill.sh prints them over the translation 9c6b58b9991474c9… (all of the seat's roots in one cut). By AI agents, Wed Nov 11 2026. No macro, syntax, notation, axiom, sorry.
-/
import Derived.Test.YtfikdnmbnbkchaaChecked
import GoSem.Claim
import GoSem.ClaimJoined
import GoSem.ClaimMapViews
import Derived.JoinedTies
import Derived.KernelRfl
namespace Go.Proofs.Ytfikdnmbnbkchaa
/- THE CELL 'sum', in the pinned program and in every row, IS THE sha256 OF THE DUMP (.gsa) THAT YtfikdnmbnbkchaaProg.lean LOADS. Nothing in Lean hashes anything: it is a label: what it is worth is what the hold of that sum in a sandbox is worth. -/
noncomputable def Try.pinned : Pinned := { name := "ytfikdnmbnbkchaa", sum := "9c6b58b9991474c9464b0de5e6523a838cb5a0de4b5f387e851f0b3fa21d8992", checked := Try.checked }
namespace Rows
def none {H : Type} : Left H := { results := [], args := [] }

/-- 'lombardlaw09.RankTells': WHATEVER THE INPUT: true; the input reads as it did. -/
def rankTellsSpec : ChangeSpec := { name := "rankTells", fn := fun _ => fun
  | [d] => { results := [.lit (.bool true)], args := [d] }
  | _ => none }
def rankTellsRow : OpenClaim := { program := "ytfikdnmbnbkchaa", sum := "9c6b58b9991474c9464b0de5e6523a838cb5a0de4b5f387e851f0b3fa21d8992", func := "lombard/lombardlaw09.RankTells", spec := "rankTells", unfollowed := true, recurses := true, apart := false }
def RankTellsSaid : Prop := rankTellsRow.holds Try.pinned (OpenSpec.ofChange rankTellsSpec)

/-- ITS FALSE NEIGHBOUR: 'it returns false'. Refute it at one input. -/
def rankTellsWrong : ChangeSpec := { name := "rankTells", fn := fun _ => fun
  | [d] => { results := [.lit (.bool false)], args := [d] }
  | _ => none }
def RankTellsWrongFalsely : Prop := rankTellsRow.holds Try.pinned (OpenSpec.ofChange rankTellsWrong)

/-- 'lombardlaw09.RankEach': WHATEVER THE INPUT: true; the input reads as it did. -/
def rankEachSpec : ChangeSpec := { name := "rankEach", fn := fun _ => fun
  | [d1, d2] => { results := [.lit (.bool true)], args := [d1, d2] }
  | _ => none }
def rankEachRow : OpenClaim := { program := "ytfikdnmbnbkchaa", sum := "9c6b58b9991474c9464b0de5e6523a838cb5a0de4b5f387e851f0b3fa21d8992", func := "lombard/lombardlaw09.RankEach", spec := "rankEach", unfollowed := true, recurses := true, apart := false }
def RankEachSaid : Prop := rankEachRow.holds Try.pinned (OpenSpec.ofChange rankEachSpec)

/-- ITS FALSE NEIGHBOUR: 'it returns false'. Refute it at one input. -/
def rankEachWrong : ChangeSpec := { name := "rankEach", fn := fun _ => fun
  | [d1, d2] => { results := [.lit (.bool false)], args := [d1, d2] }
  | _ => none }
def RankEachWrongFalsely : Prop := rankEachRow.holds Try.pinned (OpenSpec.ofChange rankEachWrong)

/-- 'lombardlaw09.RankMirror': WHATEVER THE INPUT: true; the input reads as it did. -/
def rankMirrorSpec : ChangeSpec := { name := "rankMirror", fn := fun _ => fun
  | [d1, d2] => { results := [.lit (.bool true)], args := [d1, d2] }
  | _ => none }
def rankMirrorRow : OpenClaim := { program := "ytfikdnmbnbkchaa", sum := "9c6b58b9991474c9464b0de5e6523a838cb5a0de4b5f387e851f0b3fa21d8992", func := "lombard/lombardlaw09.RankMirror", spec := "rankMirror", unfollowed := true, recurses := true, apart := false }
def RankMirrorSaid : Prop := rankMirrorRow.holds Try.pinned (OpenSpec.ofChange rankMirrorSpec)

/-- ITS FALSE NEIGHBOUR: 'it returns false'. Refute it at one input. -/
def rankMirrorWrong : ChangeSpec := { name := "rankMirror", fn := fun _ => fun
  | [d1, d2] => { results := [.lit (.bool false)], args := [d1, d2] }
  | _ => none }
def RankMirrorWrongFalsely : Prop := rankMirrorRow.holds Try.pinned (OpenSpec.ofChange rankMirrorWrong)

/-- 'lombardlaw10.FallInto': WHATEVER THE INPUT: true; the input reads as it did. -/
def fallIntoSpec : ChangeSpec := { name := "fallInto", fn := fun _ => fun
  | [d1, d2, d3] => { results := [.lit (.bool true)], args := [d1, d2, d3] }
  | _ => none }
def fallIntoRow : OpenClaim := { program := "ytfikdnmbnbkchaa", sum := "9c6b58b9991474c9464b0de5e6523a838cb5a0de4b5f387e851f0b3fa21d8992", func := "lombard/lombardlaw10.FallInto", spec := "fallInto", unfollowed := true, recurses := true, apart := false }
def FallIntoSaid : Prop := fallIntoRow.holds Try.pinned (OpenSpec.ofChange fallIntoSpec)

/-- ITS FALSE NEIGHBOUR: 'it returns false'. Refute it at one input. -/
def fallIntoWrong : ChangeSpec := { name := "fallInto", fn := fun _ => fun
  | [d1, d2, d3] => { results := [.lit (.bool false)], args := [d1, d2, d3] }
  | _ => none }
def FallIntoWrongFalsely : Prop := fallIntoRow.holds Try.pinned (OpenSpec.ofChange fallIntoWrong)

/-- 'lombardlaw10.FallOrder': WHATEVER THE INPUT: true; the input reads as it did. -/
def fallOrderSpec : ChangeSpec := { name := "fallOrder", fn := fun _ => fun
  | [d1, d2, d3, d4] => { results := [.lit (.bool true)], args := [d1, d2, d3, d4] }
  | _ => none }
def fallOrderRow : OpenClaim := { program := "ytfikdnmbnbkchaa", sum := "9c6b58b9991474c9464b0de5e6523a838cb5a0de4b5f387e851f0b3fa21d8992", func := "lombard/lombardlaw10.FallOrder", spec := "fallOrder", unfollowed := true, recurses := true, apart := false }
def FallOrderSaid : Prop := fallOrderRow.holds Try.pinned (OpenSpec.ofChange fallOrderSpec)

/-- ITS FALSE NEIGHBOUR: 'it returns false'. Refute it at one input. -/
def fallOrderWrong : ChangeSpec := { name := "fallOrder", fn := fun _ => fun
  | [d1, d2, d3, d4] => { results := [.lit (.bool false)], args := [d1, d2, d3, d4] }
  | _ => none }
def FallOrderWrongFalsely : Prop := fallOrderRow.holds Try.pinned (OpenSpec.ofChange fallOrderWrong)

/-- 'lombardlaw10.FallPays': WHATEVER THE INPUT: true; the input reads as it did. -/
def fallPaysSpec : ChangeSpec := { name := "fallPays", fn := fun _ => fun
  | [d1, d2, d3] => { results := [.lit (.bool true)], args := [d1, d2, d3] }
  | _ => none }
def fallPaysRow : OpenClaim := { program := "ytfikdnmbnbkchaa", sum := "9c6b58b9991474c9464b0de5e6523a838cb5a0de4b5f387e851f0b3fa21d8992", func := "lombard/lombardlaw10.FallPays", spec := "fallPays", unfollowed := true, recurses := true, apart := false }
def FallPaysSaid : Prop := fallPaysRow.holds Try.pinned (OpenSpec.ofChange fallPaysSpec)

/-- ITS FALSE NEIGHBOUR: 'it returns false'. Refute it at one input. -/
def fallPaysWrong : ChangeSpec := { name := "fallPays", fn := fun _ => fun
  | [d1, d2, d3] => { results := [.lit (.bool false)], args := [d1, d2, d3] }
  | _ => none }
def FallPaysWrongFalsely : Prop := fallPaysRow.holds Try.pinned (OpenSpec.ofChange fallPaysWrong)

/-- 'lombardlaw10.FallAll': WHATEVER THE INPUT: true; the input reads as it did. -/
def fallAllSpec : ChangeSpec := { name := "fallAll", fn := fun _ => fun
  | [d1, d2, d3, d4] => { results := [.lit (.bool true)], args := [d1, d2, d3, d4] }
  | _ => none }
def fallAllRow : OpenClaim := { program := "ytfikdnmbnbkchaa", sum := "9c6b58b9991474c9464b0de5e6523a838cb5a0de4b5f387e851f0b3fa21d8992", func := "lombard/lombardlaw10.FallAll", spec := "fallAll", unfollowed := true, recurses := true, apart := false }
def FallAllSaid : Prop := fallAllRow.holds Try.pinned (OpenSpec.ofChange fallAllSpec)

/-- ITS FALSE NEIGHBOUR: 'it returns false'. Refute it at one input. -/
def fallAllWrong : ChangeSpec := { name := "fallAll", fn := fun _ => fun
  | [d1, d2, d3, d4] => { results := [.lit (.bool false)], args := [d1, d2, d3, d4] }
  | _ => none }
def FallAllWrongFalsely : Prop := fallAllRow.holds Try.pinned (OpenSpec.ofChange fallAllWrong)

/-- 'lombardlaw10.FallFirst': WHATEVER THE INPUT: true; the input reads as it did. -/
def fallFirstSpec : ChangeSpec := { name := "fallFirst", fn := fun _ => fun
  | [d1, d2, d3, d4] => { results := [.lit (.bool true)], args := [d1, d2, d3, d4] }
  | _ => none }
def fallFirstRow : OpenClaim := { program := "ytfikdnmbnbkchaa", sum := "9c6b58b9991474c9464b0de5e6523a838cb5a0de4b5f387e851f0b3fa21d8992", func := "lombard/lombardlaw10.FallFirst", spec := "fallFirst", unfollowed := true, recurses := true, apart := false }
def FallFirstSaid : Prop := fallFirstRow.holds Try.pinned (OpenSpec.ofChange fallFirstSpec)

/-- ITS FALSE NEIGHBOUR: 'it returns false'. Refute it at one input. -/
def fallFirstWrong : ChangeSpec := { name := "fallFirst", fn := fun _ => fun
  | [d1, d2, d3, d4] => { results := [.lit (.bool false)], args := [d1, d2, d3, d4] }
  | _ => none }
def FallFirstWrongFalsely : Prop := fallFirstRow.holds Try.pinned (OpenSpec.ofChange fallFirstWrong)

/-- 'lombardlaw10.FallSteps': WHATEVER THE INPUT: true; the input reads as it did. -/
def fallStepsSpec : ChangeSpec := { name := "fallSteps", fn := fun _ => fun
  | [d1, d2, d3, d4] => { results := [.lit (.bool true)], args := [d1, d2, d3, d4] }
  | _ => none }
def fallStepsRow : OpenClaim := { program := "ytfikdnmbnbkchaa", sum := "9c6b58b9991474c9464b0de5e6523a838cb5a0de4b5f387e851f0b3fa21d8992", func := "lombard/lombardlaw10.FallSteps", spec := "fallSteps", unfollowed := true, recurses := true, apart := false }
def FallStepsSaid : Prop := fallStepsRow.holds Try.pinned (OpenSpec.ofChange fallStepsSpec)

/-- ITS FALSE NEIGHBOUR: 'it returns false'. Refute it at one input. -/
def fallStepsWrong : ChangeSpec := { name := "fallSteps", fn := fun _ => fun
  | [d1, d2, d3, d4] => { results := [.lit (.bool false)], args := [d1, d2, d3, d4] }
  | _ => none }
def FallStepsWrongFalsely : Prop := fallStepsRow.holds Try.pinned (OpenSpec.ofChange fallStepsWrong)

/- THE SECOND FORM. 'bulk': how many values and letters a reading holds, each counted each time it is reached (what is shared counts as often as it is met; a slice's spare places count too). A statement '..UptoSaid' is the law's where the arguments, and the package variables that the reading takes, are together of bulk at most 1048576: NARROWER than '..Said'. Prove '..Said' where nothing that the law and all that it calls make is longer than what came in: it says more and counts as full. Else prove '..UptoSaid'. A law counts once. -/
mutual
def uptoBulk {H : Type} : DataW H → Nat
  | .lit (.string bytes) => bytes.length + 1
  | .lit _ => 1
  | .nil => 1
  | .ptr d => uptoBulk d + 1
  | .slice elems spare => uptoBulkAll elems + uptoBulkAll spare + 1
  | .agg parts => uptoBulkAll parts + 1
  | .iface _ d => uptoBulk d + 1
  | .map entries => uptoBulkEntries entries + 1
  | .held _ => 1
def uptoBulkAll {H : Type} : List (DataW H) → Nat
  | [] => 0
  | d :: r => uptoBulk d + uptoBulkAll r
def uptoBulkEntries {H : Type} : List (Lit × DataW H) → Nat
  | [] => 0
  | x :: r => uptoBulkEntry x + uptoBulkEntries r
def uptoBulkEntry {H : Type} : Lit × DataW H → Nat
  | (.string bytes, d) => bytes.length + uptoBulk d + 1
  | (_, d) => uptoBulk d + 1
 end
def uptoSmall : (H : Type) → List (DataW H) → Bool := fun _ ds => decide (uptoBulkAll ds ≤ 1048576)
def OpenSpec.upto (s : _root_.Go.ChangeSpec) : _root_.Go.OpenSpec := { _root_.Go.OpenSpec.ofChange s with cond := some uptoSmall }

/-- 'lombardlaw09.RankTells', WHERE WHAT IT READS IS OF BULK AT MOST 1048576: true; the input reads as it did. -/
def rankTellsUptoRow : OpenClaim := { program := "ytfikdnmbnbkchaa", sum := "9c6b58b9991474c9464b0de5e6523a838cb5a0de4b5f387e851f0b3fa21d8992", func := "lombard/lombardlaw09.RankTells", spec := "rankTells", unfollowed := true, recurses := true, apart := false, narrowed := true }
def RankTellsUptoSaid : Prop := rankTellsUptoRow.holds Try.pinned (OpenSpec.upto rankTellsSpec)

/-- 'lombardlaw09.RankEach', WHERE WHAT IT READS IS OF BULK AT MOST 1048576: true; the input reads as it did. -/
def rankEachUptoRow : OpenClaim := { program := "ytfikdnmbnbkchaa", sum := "9c6b58b9991474c9464b0de5e6523a838cb5a0de4b5f387e851f0b3fa21d8992", func := "lombard/lombardlaw09.RankEach", spec := "rankEach", unfollowed := true, recurses := true, apart := false, narrowed := true }
def RankEachUptoSaid : Prop := rankEachUptoRow.holds Try.pinned (OpenSpec.upto rankEachSpec)

/-- 'lombardlaw09.RankMirror', WHERE WHAT IT READS IS OF BULK AT MOST 1048576: true; the input reads as it did. -/
def rankMirrorUptoRow : OpenClaim := { program := "ytfikdnmbnbkchaa", sum := "9c6b58b9991474c9464b0de5e6523a838cb5a0de4b5f387e851f0b3fa21d8992", func := "lombard/lombardlaw09.RankMirror", spec := "rankMirror", unfollowed := true, recurses := true, apart := false, narrowed := true }
def RankMirrorUptoSaid : Prop := rankMirrorUptoRow.holds Try.pinned (OpenSpec.upto rankMirrorSpec)

/-- 'lombardlaw10.FallInto', WHERE WHAT IT READS IS OF BULK AT MOST 1048576: true; the input reads as it did. -/
def fallIntoUptoRow : OpenClaim := { program := "ytfikdnmbnbkchaa", sum := "9c6b58b9991474c9464b0de5e6523a838cb5a0de4b5f387e851f0b3fa21d8992", func := "lombard/lombardlaw10.FallInto", spec := "fallInto", unfollowed := true, recurses := true, apart := false, narrowed := true }
def FallIntoUptoSaid : Prop := fallIntoUptoRow.holds Try.pinned (OpenSpec.upto fallIntoSpec)

/-- 'lombardlaw10.FallOrder', WHERE WHAT IT READS IS OF BULK AT MOST 1048576: true; the input reads as it did. -/
def fallOrderUptoRow : OpenClaim := { program := "ytfikdnmbnbkchaa", sum := "9c6b58b9991474c9464b0de5e6523a838cb5a0de4b5f387e851f0b3fa21d8992", func := "lombard/lombardlaw10.FallOrder", spec := "fallOrder", unfollowed := true, recurses := true, apart := false, narrowed := true }
def FallOrderUptoSaid : Prop := fallOrderUptoRow.holds Try.pinned (OpenSpec.upto fallOrderSpec)

/-- 'lombardlaw10.FallPays', WHERE WHAT IT READS IS OF BULK AT MOST 1048576: true; the input reads as it did. -/
def fallPaysUptoRow : OpenClaim := { program := "ytfikdnmbnbkchaa", sum := "9c6b58b9991474c9464b0de5e6523a838cb5a0de4b5f387e851f0b3fa21d8992", func := "lombard/lombardlaw10.FallPays", spec := "fallPays", unfollowed := true, recurses := true, apart := false, narrowed := true }
def FallPaysUptoSaid : Prop := fallPaysUptoRow.holds Try.pinned (OpenSpec.upto fallPaysSpec)

/-- 'lombardlaw10.FallAll', WHERE WHAT IT READS IS OF BULK AT MOST 1048576: true; the input reads as it did. -/
def fallAllUptoRow : OpenClaim := { program := "ytfikdnmbnbkchaa", sum := "9c6b58b9991474c9464b0de5e6523a838cb5a0de4b5f387e851f0b3fa21d8992", func := "lombard/lombardlaw10.FallAll", spec := "fallAll", unfollowed := true, recurses := true, apart := false, narrowed := true }
def FallAllUptoSaid : Prop := fallAllUptoRow.holds Try.pinned (OpenSpec.upto fallAllSpec)

/-- 'lombardlaw10.FallFirst', WHERE WHAT IT READS IS OF BULK AT MOST 1048576: true; the input reads as it did. -/
def fallFirstUptoRow : OpenClaim := { program := "ytfikdnmbnbkchaa", sum := "9c6b58b9991474c9464b0de5e6523a838cb5a0de4b5f387e851f0b3fa21d8992", func := "lombard/lombardlaw10.FallFirst", spec := "fallFirst", unfollowed := true, recurses := true, apart := false, narrowed := true }
def FallFirstUptoSaid : Prop := fallFirstUptoRow.holds Try.pinned (OpenSpec.upto fallFirstSpec)

/-- 'lombardlaw10.FallSteps', WHERE WHAT IT READS IS OF BULK AT MOST 1048576: true; the input reads as it did. -/
def fallStepsUptoRow : OpenClaim := { program := "ytfikdnmbnbkchaa", sum := "9c6b58b9991474c9464b0de5e6523a838cb5a0de4b5f387e851f0b3fa21d8992", func := "lombard/lombardlaw10.FallSteps", spec := "fallSteps", unfollowed := true, recurses := true, apart := false, narrowed := true }
def FallStepsUptoSaid : Prop := fallStepsUptoRow.holds Try.pinned (OpenSpec.upto fallStepsSpec)

end Rows
end Go.Proofs.Ytfikdnmbnbkchaa
