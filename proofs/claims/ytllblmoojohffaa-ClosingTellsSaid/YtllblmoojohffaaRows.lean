/-
  No cell of these rows narrows 'for every input' (looked for: loops, veiled, ifaces, maps, wideKeys, modest, calm, conditions, laid).
  DERIVED. THE GIVEN ROWS OF THIS SEAT. 11 by the template 'for every input the law returns true; each argument reads behind the call as it read before'; 0 by the template 'total and deterministic' (their statements: YtllblmoojohffaaTotals.lean).
  GIVEN WITH THE SEED: the statements are not yours to turn. If you find one false, say at which input.
  Laid BY PROGRAM, IN A SANDBOX (cutbox-rows.mjs): the forced cells as the released guide's own fill.sh prints them over the translation a383ea4155b36339… (all of the seat's roots in one cut). By AI agents, Wed Nov 11 2026. No macro, syntax, notation, axiom, sorry.
-/
import Derived.Test.YtllblmoojohffaaChecked
import GoSem.Claim
import GoSem.ClaimJoined
import GoSem.ClaimMapViews
import Derived.JoinedTies
import Derived.KernelRfl
namespace Go.Proofs.Ytllblmoojohffaa
/- THE CELL 'sum', in the pinned program and in every row, IS THE sha256 OF THE DUMP (.gsa) THAT YtllblmoojohffaaProg.lean LOADS. Nothing in Lean hashes anything: it is a label: what it is worth is what the hold of that sum in a sandbox is worth. -/
noncomputable def Try.pinned : Pinned := { name := "ytllblmoojohffaa", sum := "a383ea4155b36339b8e4b2068881d65d8308c95011090d91f4f7b1796d6c10fb", checked := Try.checked }
namespace Rows
def none {H : Type} : Left H := { results := [], args := [] }

/-- 'lombardlaw13.InterestHalf': WHATEVER THE INPUT: true; the input reads as it did. -/
def interestHalfSpec : ChangeSpec := { name := "interestHalf", fn := fun _ => fun
  | [d1, d2, d3] => { results := [.lit (.bool true)], args := [d1, d2, d3] }
  | _ => none }
def interestHalfRow : OpenClaim := { program := "ytllblmoojohffaa", sum := "a383ea4155b36339b8e4b2068881d65d8308c95011090d91f4f7b1796d6c10fb", func := "lombard/lombardlaw13.InterestHalf", spec := "interestHalf", inPlace := ["math/bits.Add64"], unfollowed := true, recurses := true, named := ["math/bits.divideError", "math/bits.overflowError"], apart := false }
def InterestHalfSaid : Prop := interestHalfRow.holds Try.pinned (OpenSpec.ofChange interestHalfSpec)

/-- ITS FALSE NEIGHBOUR: 'it returns false'. Refute it at one input. -/
def interestHalfWrong : ChangeSpec := { name := "interestHalf", fn := fun _ => fun
  | [d1, d2, d3] => { results := [.lit (.bool false)], args := [d1, d2, d3] }
  | _ => none }
def InterestHalfWrongFalsely : Prop := interestHalfRow.holds Try.pinned (OpenSpec.ofChange interestHalfWrong)

/-- 'lombardlaw13.InterestParts': WHATEVER THE INPUT: true; the input reads as it did. -/
def interestPartsSpec : ChangeSpec := { name := "interestParts", fn := fun _ => fun
  | [d1, d2, d3] => { results := [.lit (.bool true)], args := [d1, d2, d3] }
  | _ => none }
def interestPartsRow : OpenClaim := { program := "ytllblmoojohffaa", sum := "a383ea4155b36339b8e4b2068881d65d8308c95011090d91f4f7b1796d6c10fb", func := "lombard/lombardlaw13.InterestParts", spec := "interestParts", inPlace := ["math/bits.Add64"], unfollowed := true, recurses := true, named := ["math/bits.divideError", "math/bits.overflowError"], apart := false }
def InterestPartsSaid : Prop := interestPartsRow.holds Try.pinned (OpenSpec.ofChange interestPartsSpec)

/-- ITS FALSE NEIGHBOUR: 'it returns false'. Refute it at one input. -/
def interestPartsWrong : ChangeSpec := { name := "interestParts", fn := fun _ => fun
  | [d1, d2, d3] => { results := [.lit (.bool false)], args := [d1, d2, d3] }
  | _ => none }
def InterestPartsWrongFalsely : Prop := interestPartsRow.holds Try.pinned (OpenSpec.ofChange interestPartsWrong)

/-- 'lombardlaw15.LeastTells': WHATEVER THE INPUT: true; the input reads as it did. -/
def leastTellsSpec : ChangeSpec := { name := "leastTells", fn := fun _ => fun
  | [d1, d2] => { results := [.lit (.bool true)], args := [d1, d2] }
  | _ => none }
def leastTellsRow : OpenClaim := { program := "ytllblmoojohffaa", sum := "a383ea4155b36339b8e4b2068881d65d8308c95011090d91f4f7b1796d6c10fb", func := "lombard/lombardlaw15.LeastTells", spec := "leastTells", named := ["math/bits.divideError", "math/bits.overflowError"], apart := false }
def LeastTellsSaid : Prop := leastTellsRow.holds Try.pinned (OpenSpec.ofChange leastTellsSpec)

/-- ITS FALSE NEIGHBOUR: 'it returns false'. Refute it at one input. -/
def leastTellsWrong : ChangeSpec := { name := "leastTells", fn := fun _ => fun
  | [d1, d2] => { results := [.lit (.bool false)], args := [d1, d2] }
  | _ => none }
def LeastTellsWrongFalsely : Prop := leastTellsRow.holds Try.pinned (OpenSpec.ofChange leastTellsWrong)

/-- 'lombardlaw15.LeastBetween': WHATEVER THE INPUT: true; the input reads as it did. -/
def leastBetweenSpec : ChangeSpec := { name := "leastBetween", fn := fun _ => fun
  | [d1, d2, d3, d4] => { results := [.lit (.bool true)], args := [d1, d2, d3, d4] }
  | _ => none }
def leastBetweenRow : OpenClaim := { program := "ytllblmoojohffaa", sum := "a383ea4155b36339b8e4b2068881d65d8308c95011090d91f4f7b1796d6c10fb", func := "lombard/lombardlaw15.LeastBetween", spec := "leastBetween", named := ["math/bits.divideError", "math/bits.overflowError"], apart := false }
def LeastBetweenSaid : Prop := leastBetweenRow.holds Try.pinned (OpenSpec.ofChange leastBetweenSpec)

/-- ITS FALSE NEIGHBOUR: 'it returns false'. Refute it at one input. -/
def leastBetweenWrong : ChangeSpec := { name := "leastBetween", fn := fun _ => fun
  | [d1, d2, d3, d4] => { results := [.lit (.bool false)], args := [d1, d2, d3, d4] }
  | _ => none }
def LeastBetweenWrongFalsely : Prop := leastBetweenRow.holds Try.pinned (OpenSpec.ofChange leastBetweenWrong)

/-- 'lombardlaw15.LeastAll': WHATEVER THE INPUT: true; the input reads as it did. -/
def leastAllSpec : ChangeSpec := { name := "leastAll", fn := fun _ => fun
  | [d1, d2] => { results := [.lit (.bool true)], args := [d1, d2] }
  | _ => none }
def leastAllRow : OpenClaim := { program := "ytllblmoojohffaa", sum := "a383ea4155b36339b8e4b2068881d65d8308c95011090d91f4f7b1796d6c10fb", func := "lombard/lombardlaw15.LeastAll", spec := "leastAll", named := ["math/bits.divideError", "math/bits.overflowError"], apart := false }
def LeastAllSaid : Prop := leastAllRow.holds Try.pinned (OpenSpec.ofChange leastAllSpec)

/-- ITS FALSE NEIGHBOUR: 'it returns false'. Refute it at one input. -/
def leastAllWrong : ChangeSpec := { name := "leastAll", fn := fun _ => fun
  | [d1, d2] => { results := [.lit (.bool false)], args := [d1, d2] }
  | _ => none }
def LeastAllWrongFalsely : Prop := leastAllRow.holds Try.pinned (OpenSpec.ofChange leastAllWrong)

/-- 'lombardlaw13.InterestTells': WHATEVER THE INPUT: true; the input reads as it did. -/
def interestTellsSpec : ChangeSpec := { name := "interestTells", fn := fun _ => fun
  | [d1, d2] => { results := [.lit (.bool true)], args := [d1, d2] }
  | _ => none }
def interestTellsRow : OpenClaim := { program := "ytllblmoojohffaa", sum := "a383ea4155b36339b8e4b2068881d65d8308c95011090d91f4f7b1796d6c10fb", func := "lombard/lombardlaw13.InterestTells", spec := "interestTells", inPlace := ["math/bits.Add64"], unfollowed := true, recurses := true, named := ["math/bits.divideError", "math/bits.overflowError"], apart := false }
def InterestTellsSaid : Prop := interestTellsRow.holds Try.pinned (OpenSpec.ofChange interestTellsSpec)

/-- ITS FALSE NEIGHBOUR: 'it returns false'. Refute it at one input. -/
def interestTellsWrong : ChangeSpec := { name := "interestTells", fn := fun _ => fun
  | [d1, d2] => { results := [.lit (.bool false)], args := [d1, d2] }
  | _ => none }
def InterestTellsWrongFalsely : Prop := interestTellsRow.holds Try.pinned (OpenSpec.ofChange interestTellsWrong)

/-- 'lombardlaw13.InterestOne': WHATEVER THE INPUT: true; the input reads as it did. -/
def interestOneSpec : ChangeSpec := { name := "interestOne", fn := fun _ => fun
  | [d1, d2, d3] => { results := [.lit (.bool true)], args := [d1, d2, d3] }
  | _ => none }
def interestOneRow : OpenClaim := { program := "ytllblmoojohffaa", sum := "a383ea4155b36339b8e4b2068881d65d8308c95011090d91f4f7b1796d6c10fb", func := "lombard/lombardlaw13.InterestOne", spec := "interestOne", inPlace := ["math/bits.Add64"], unfollowed := true, recurses := true, named := ["math/bits.divideError", "math/bits.overflowError"], apart := false }
def InterestOneSaid : Prop := interestOneRow.holds Try.pinned (OpenSpec.ofChange interestOneSpec)

/-- ITS FALSE NEIGHBOUR: 'it returns false'. Refute it at one input. -/
def interestOneWrong : ChangeSpec := { name := "interestOne", fn := fun _ => fun
  | [d1, d2, d3] => { results := [.lit (.bool false)], args := [d1, d2, d3] }
  | _ => none }
def InterestOneWrongFalsely : Prop := interestOneRow.holds Try.pinned (OpenSpec.ofChange interestOneWrong)

/-- 'lombardlaw18.ClosingLines': WHATEVER THE INPUT: true; the input reads as it did. -/
def closingLinesSpec : ChangeSpec := { name := "closingLines", fn := fun _ => fun
  | [d1, d2, d3, d4, d5, d6] => { results := [.lit (.bool true)], args := [d1, d2, d3, d4, d5, d6] }
  | _ => none }
def closingLinesRow : OpenClaim := { program := "ytllblmoojohffaa", sum := "a383ea4155b36339b8e4b2068881d65d8308c95011090d91f4f7b1796d6c10fb", func := "lombard/lombardlaw18.ClosingLines", spec := "closingLines", unfollowed := true, recurses := true, named := ["math/bits.divideError", "math/bits.overflowError"], apart := false }
def ClosingLinesSaid : Prop := closingLinesRow.holds Try.pinned (OpenSpec.ofChange closingLinesSpec)

/-- ITS FALSE NEIGHBOUR: 'it returns false'. Refute it at one input. -/
def closingLinesWrong : ChangeSpec := { name := "closingLines", fn := fun _ => fun
  | [d1, d2, d3, d4, d5, d6] => { results := [.lit (.bool false)], args := [d1, d2, d3, d4, d5, d6] }
  | _ => none }
def ClosingLinesWrongFalsely : Prop := closingLinesRow.holds Try.pinned (OpenSpec.ofChange closingLinesWrong)

/-- 'lombardlaw18.ClosingRefused': WHATEVER THE INPUT: true; the input reads as it did. -/
def closingRefusedSpec : ChangeSpec := { name := "closingRefused", fn := fun _ => fun
  | [d] => { results := [.lit (.bool true)], args := [d] }
  | _ => none }
def closingRefusedRow : OpenClaim := { program := "ytllblmoojohffaa", sum := "a383ea4155b36339b8e4b2068881d65d8308c95011090d91f4f7b1796d6c10fb", func := "lombard/lombardlaw18.ClosingRefused", spec := "closingRefused", unfollowed := true, recurses := true, named := ["math/bits.divideError", "math/bits.overflowError"], apart := false }
def ClosingRefusedSaid : Prop := closingRefusedRow.holds Try.pinned (OpenSpec.ofChange closingRefusedSpec)

/-- ITS FALSE NEIGHBOUR: 'it returns false'. Refute it at one input. -/
def closingRefusedWrong : ChangeSpec := { name := "closingRefused", fn := fun _ => fun
  | [d] => { results := [.lit (.bool false)], args := [d] }
  | _ => none }
def ClosingRefusedWrongFalsely : Prop := closingRefusedRow.holds Try.pinned (OpenSpec.ofChange closingRefusedWrong)

/-- 'lombardlaw18.ClosingTells': WHATEVER THE INPUT: true; the input reads as it did. -/
def closingTellsSpec : ChangeSpec := { name := "closingTells", fn := fun _ => fun
  | [d1, d2, d3, d4, d5, d6, d7, d8, d9] => { results := [.lit (.bool true)], args := [d1, d2, d3, d4, d5, d6, d7, d8, d9] }
  | _ => none }
def closingTellsRow : OpenClaim := { program := "ytllblmoojohffaa", sum := "a383ea4155b36339b8e4b2068881d65d8308c95011090d91f4f7b1796d6c10fb", func := "lombard/lombardlaw18.ClosingTells", spec := "closingTells", inPlace := ["math/bits.Add64"], unfollowed := true, recurses := true, named := ["math/bits.divideError", "math/bits.overflowError"], apart := false }
def ClosingTellsSaid : Prop := closingTellsRow.holds Try.pinned (OpenSpec.ofChange closingTellsSpec)

/-- ITS FALSE NEIGHBOUR: 'it returns false'. Refute it at one input. -/
def closingTellsWrong : ChangeSpec := { name := "closingTells", fn := fun _ => fun
  | [d1, d2, d3, d4, d5, d6, d7, d8, d9] => { results := [.lit (.bool false)], args := [d1, d2, d3, d4, d5, d6, d7, d8, d9] }
  | _ => none }
def ClosingTellsWrongFalsely : Prop := closingTellsRow.holds Try.pinned (OpenSpec.ofChange closingTellsWrong)

/-- 'lombardlaw18.ClosingGrace': WHATEVER THE INPUT: true; the input reads as it did. -/
def closingGraceSpec : ChangeSpec := { name := "closingGrace", fn := fun _ => fun
  | [d1, d2] => { results := [.lit (.bool true)], args := [d1, d2] }
  | _ => none }
def closingGraceRow : OpenClaim := { program := "ytllblmoojohffaa", sum := "a383ea4155b36339b8e4b2068881d65d8308c95011090d91f4f7b1796d6c10fb", func := "lombard/lombardlaw18.ClosingGrace", spec := "closingGrace", inPlace := ["math/bits.Add64"], unfollowed := true, recurses := true, named := ["math/bits.divideError", "math/bits.overflowError"], apart := false }
def ClosingGraceSaid : Prop := closingGraceRow.holds Try.pinned (OpenSpec.ofChange closingGraceSpec)

/-- ITS FALSE NEIGHBOUR: 'it returns false'. Refute it at one input. -/
def closingGraceWrong : ChangeSpec := { name := "closingGrace", fn := fun _ => fun
  | [d1, d2] => { results := [.lit (.bool false)], args := [d1, d2] }
  | _ => none }
def ClosingGraceWrongFalsely : Prop := closingGraceRow.holds Try.pinned (OpenSpec.ofChange closingGraceWrong)

/- THE SECOND FORM. 'bulk': how many values and letters a reading holds, each counted each time it is reached (what is shared counts as often as it is met; a slice's spare places count too). A statement '..UptoSaid' is the law's where the arguments, and the package variables that the reading takes, are together of bulk at most 1048576: NARROWER than '..Said'. Prove '..Said' where nothing that the law and all that it calls make is longer than what came in: it says more and counts as full. Else prove '..UptoSaid'. A law counts once. -/
mutual
def uptoBulk {H : Type} : DataW H → Nat
  | .lit (.string bytes) => bytes.length + 1
  | .lit _ => 1
  | .nil => 1
  | .ptr d => uptoBulk d + 1
  | .slice elems spare => uptoBulkAll elems + uptoBulkAll spare + 1
  | .agg parts => uptoBulkAll parts + 1
  | .iface _ d => uptoBulk d + 1
  | .map entries => uptoBulkEntries entries + 1
  | .held _ => 1
def uptoBulkAll {H : Type} : List (DataW H) → Nat
  | [] => 0
  | d :: r => uptoBulk d + uptoBulkAll r
def uptoBulkEntries {H : Type} : List (Lit × DataW H) → Nat
  | [] => 0
  | x :: r => uptoBulkEntry x + uptoBulkEntries r
def uptoBulkEntry {H : Type} : Lit × DataW H → Nat
  | (.string bytes, d) => bytes.length + uptoBulk d + 1
  | (_, d) => uptoBulk d + 1
 end
def uptoSmall : (H : Type) → List (DataW H) → Bool := fun _ ds => decide (uptoBulkAll ds ≤ 1048576)
def OpenSpec.upto (s : _root_.Go.ChangeSpec) : _root_.Go.OpenSpec := { _root_.Go.OpenSpec.ofChange s with cond := some uptoSmall }

/-- 'lombardlaw13.InterestHalf', WHERE WHAT IT READS IS OF BULK AT MOST 1048576: true; the input reads as it did. -/
def interestHalfUptoRow : OpenClaim := { program := "ytllblmoojohffaa", sum := "a383ea4155b36339b8e4b2068881d65d8308c95011090d91f4f7b1796d6c10fb", func := "lombard/lombardlaw13.InterestHalf", spec := "interestHalf", inPlace := ["math/bits.Add64"], unfollowed := true, recurses := true, named := ["math/bits.divideError", "math/bits.overflowError"], apart := false, narrowed := true }
def InterestHalfUptoSaid : Prop := interestHalfUptoRow.holds Try.pinned (OpenSpec.upto interestHalfSpec)

/-- 'lombardlaw13.InterestParts', WHERE WHAT IT READS IS OF BULK AT MOST 1048576: true; the input reads as it did. -/
def interestPartsUptoRow : OpenClaim := { program := "ytllblmoojohffaa", sum := "a383ea4155b36339b8e4b2068881d65d8308c95011090d91f4f7b1796d6c10fb", func := "lombard/lombardlaw13.InterestParts", spec := "interestParts", inPlace := ["math/bits.Add64"], unfollowed := true, recurses := true, named := ["math/bits.divideError", "math/bits.overflowError"], apart := false, narrowed := true }
def InterestPartsUptoSaid : Prop := interestPartsUptoRow.holds Try.pinned (OpenSpec.upto interestPartsSpec)

/-- 'lombardlaw15.LeastTells', WHERE WHAT IT READS IS OF BULK AT MOST 1048576: true; the input reads as it did. -/
def leastTellsUptoRow : OpenClaim := { program := "ytllblmoojohffaa", sum := "a383ea4155b36339b8e4b2068881d65d8308c95011090d91f4f7b1796d6c10fb", func := "lombard/lombardlaw15.LeastTells", spec := "leastTells", named := ["math/bits.divideError", "math/bits.overflowError"], apart := false, narrowed := true }
def LeastTellsUptoSaid : Prop := leastTellsUptoRow.holds Try.pinned (OpenSpec.upto leastTellsSpec)

/-- 'lombardlaw15.LeastBetween', WHERE WHAT IT READS IS OF BULK AT MOST 1048576: true; the input reads as it did. -/
def leastBetweenUptoRow : OpenClaim := { program := "ytllblmoojohffaa", sum := "a383ea4155b36339b8e4b2068881d65d8308c95011090d91f4f7b1796d6c10fb", func := "lombard/lombardlaw15.LeastBetween", spec := "leastBetween", named := ["math/bits.divideError", "math/bits.overflowError"], apart := false, narrowed := true }
def LeastBetweenUptoSaid : Prop := leastBetweenUptoRow.holds Try.pinned (OpenSpec.upto leastBetweenSpec)

/-- 'lombardlaw15.LeastAll', WHERE WHAT IT READS IS OF BULK AT MOST 1048576: true; the input reads as it did. -/
def leastAllUptoRow : OpenClaim := { program := "ytllblmoojohffaa", sum := "a383ea4155b36339b8e4b2068881d65d8308c95011090d91f4f7b1796d6c10fb", func := "lombard/lombardlaw15.LeastAll", spec := "leastAll", named := ["math/bits.divideError", "math/bits.overflowError"], apart := false, narrowed := true }
def LeastAllUptoSaid : Prop := leastAllUptoRow.holds Try.pinned (OpenSpec.upto leastAllSpec)

/-- 'lombardlaw13.InterestTells', WHERE WHAT IT READS IS OF BULK AT MOST 1048576: true; the input reads as it did. -/
def interestTellsUptoRow : OpenClaim := { program := "ytllblmoojohffaa", sum := "a383ea4155b36339b8e4b2068881d65d8308c95011090d91f4f7b1796d6c10fb", func := "lombard/lombardlaw13.InterestTells", spec := "interestTells", inPlace := ["math/bits.Add64"], unfollowed := true, recurses := true, named := ["math/bits.divideError", "math/bits.overflowError"], apart := false, narrowed := true }
def InterestTellsUptoSaid : Prop := interestTellsUptoRow.holds Try.pinned (OpenSpec.upto interestTellsSpec)

/-- 'lombardlaw13.InterestOne', WHERE WHAT IT READS IS OF BULK AT MOST 1048576: true; the input reads as it did. -/
def interestOneUptoRow : OpenClaim := { program := "ytllblmoojohffaa", sum := "a383ea4155b36339b8e4b2068881d65d8308c95011090d91f4f7b1796d6c10fb", func := "lombard/lombardlaw13.InterestOne", spec := "interestOne", inPlace := ["math/bits.Add64"], unfollowed := true, recurses := true, named := ["math/bits.divideError", "math/bits.overflowError"], apart := false, narrowed := true }
def InterestOneUptoSaid : Prop := interestOneUptoRow.holds Try.pinned (OpenSpec.upto interestOneSpec)

/-- 'lombardlaw18.ClosingLines', WHERE WHAT IT READS IS OF BULK AT MOST 1048576: true; the input reads as it did. -/
def closingLinesUptoRow : OpenClaim := { program := "ytllblmoojohffaa", sum := "a383ea4155b36339b8e4b2068881d65d8308c95011090d91f4f7b1796d6c10fb", func := "lombard/lombardlaw18.ClosingLines", spec := "closingLines", unfollowed := true, recurses := true, named := ["math/bits.divideError", "math/bits.overflowError"], apart := false, narrowed := true }
def ClosingLinesUptoSaid : Prop := closingLinesUptoRow.holds Try.pinned (OpenSpec.upto closingLinesSpec)

/-- 'lombardlaw18.ClosingRefused', WHERE WHAT IT READS IS OF BULK AT MOST 1048576: true; the input reads as it did. -/
def closingRefusedUptoRow : OpenClaim := { program := "ytllblmoojohffaa", sum := "a383ea4155b36339b8e4b2068881d65d8308c95011090d91f4f7b1796d6c10fb", func := "lombard/lombardlaw18.ClosingRefused", spec := "closingRefused", unfollowed := true, recurses := true, named := ["math/bits.divideError", "math/bits.overflowError"], apart := false, narrowed := true }
def ClosingRefusedUptoSaid : Prop := closingRefusedUptoRow.holds Try.pinned (OpenSpec.upto closingRefusedSpec)

/-- 'lombardlaw18.ClosingTells', WHERE WHAT IT READS IS OF BULK AT MOST 1048576: true; the input reads as it did. -/
def closingTellsUptoRow : OpenClaim := { program := "ytllblmoojohffaa", sum := "a383ea4155b36339b8e4b2068881d65d8308c95011090d91f4f7b1796d6c10fb", func := "lombard/lombardlaw18.ClosingTells", spec := "closingTells", inPlace := ["math/bits.Add64"], unfollowed := true, recurses := true, named := ["math/bits.divideError", "math/bits.overflowError"], apart := false, narrowed := true }
def ClosingTellsUptoSaid : Prop := closingTellsUptoRow.holds Try.pinned (OpenSpec.upto closingTellsSpec)

/-- 'lombardlaw18.ClosingGrace', WHERE WHAT IT READS IS OF BULK AT MOST 1048576: true; the input reads as it did. -/
def closingGraceUptoRow : OpenClaim := { program := "ytllblmoojohffaa", sum := "a383ea4155b36339b8e4b2068881d65d8308c95011090d91f4f7b1796d6c10fb", func := "lombard/lombardlaw18.ClosingGrace", spec := "closingGrace", inPlace := ["math/bits.Add64"], unfollowed := true, recurses := true, named := ["math/bits.divideError", "math/bits.overflowError"], apart := false, narrowed := true }
def ClosingGraceUptoSaid : Prop := closingGraceUptoRow.holds Try.pinned (OpenSpec.upto closingGraceSpec)

end Rows
end Go.Proofs.Ytllblmoojohffaa
