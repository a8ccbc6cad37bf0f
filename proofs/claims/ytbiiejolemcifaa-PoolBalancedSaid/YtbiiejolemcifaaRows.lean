/-
  No cell of these rows narrows 'for every input' (looked for: loops, veiled, ifaces, maps, wideKeys, modest, calm, conditions, laid).
  DERIVED. THE GIVEN ROWS OF THIS SEAT. 7 by the template 'for every input the law returns true; each argument reads behind the call as it read before'; 0 by the template 'total and deterministic' (their statements: YtbiiejolemcifaaTotals.lean).
  GIVEN WITH THE SEED: the statements are not yours to turn. If you find one false, say at which input.
  Laid BY PROGRAM, IN A SANDBOX (cutbox-rows.mjs): the forced cells as the released guide's own fill.sh prints them over the translation 29a75ca1148a70b0… (all of the seat's roots in one cut). By AI agents, Wed Nov 11 2026. No macro, syntax, notation, axiom, sorry.
-/
import Derived.Test.YtbiiejolemcifaaChecked
import GoSem.Claim
import GoSem.ClaimJoined
import GoSem.ClaimMapViews
import Derived.JoinedTies
import Derived.KernelRfl
namespace Go.Proofs.Ytbiiejolemcifaa
/- THE CELL 'sum', in the pinned program and in every row, IS THE sha256 OF THE DUMP (.gsa) THAT YtbiiejolemcifaaProg.lean LOADS. Nothing in Lean hashes anything: it is a label: what it is worth is what the hold of that sum in a sandbox is worth. -/
noncomputable def Try.pinned : Pinned := { name := "ytbiiejolemcifaa", sum := "29a75ca1148a70b0ad50f327a61f270203abe9982542e703aa9c1bef047d7a23", checked := Try.checked }
namespace Rows
def none {H : Type} : Left H := { results := [], args := [] }

/-- 'lombardlaw11.PoolBears': WHATEVER THE INPUT: true; the input reads as it did. -/
def poolBearsSpec : ChangeSpec := { name := "poolBears", fn := fun _ => fun
  | [d1, d2, d3, d4] => { results := [.lit (.bool true)], args := [d1, d2, d3, d4] }
  | _ => none }
def poolBearsRow : OpenClaim := { program := "ytbiiejolemcifaa", sum := "29a75ca1148a70b0ad50f327a61f270203abe9982542e703aa9c1bef047d7a23", func := "lombard/lombardlaw11.PoolBears", spec := "poolBears", unfollowed := true, recurses := true, apart := false }
def PoolBearsSaid : Prop := poolBearsRow.holds Try.pinned (OpenSpec.ofChange poolBearsSpec)

/-- ITS FALSE NEIGHBOUR: 'it returns false'. Refute it at one input. -/
def poolBearsWrong : ChangeSpec := { name := "poolBears", fn := fun _ => fun
  | [d1, d2, d3, d4] => { results := [.lit (.bool false)], args := [d1, d2, d3, d4] }
  | _ => none }
def PoolBearsWrongFalsely : Prop := poolBearsRow.holds Try.pinned (OpenSpec.ofChange poolBearsWrong)

/-- 'lombardlaw11.PoolPostings': WHATEVER THE INPUT: true; the input reads as it did. -/
def poolPostingsSpec : ChangeSpec := { name := "poolPostings", fn := fun _ => fun
  | [d1, d2, d3] => { results := [.lit (.bool true)], args := [d1, d2, d3] }
  | _ => none }
def poolPostingsRow : OpenClaim := { program := "ytbiiejolemcifaa", sum := "29a75ca1148a70b0ad50f327a61f270203abe9982542e703aa9c1bef047d7a23", func := "lombard/lombardlaw11.PoolPostings", spec := "poolPostings", unfollowed := true, recurses := true, apart := false }
def PoolPostingsSaid : Prop := poolPostingsRow.holds Try.pinned (OpenSpec.ofChange poolPostingsSpec)

/-- ITS FALSE NEIGHBOUR: 'it returns false'. Refute it at one input. -/
def poolPostingsWrong : ChangeSpec := { name := "poolPostings", fn := fun _ => fun
  | [d1, d2, d3] => { results := [.lit (.bool false)], args := [d1, d2, d3] }
  | _ => none }
def PoolPostingsWrongFalsely : Prop := poolPostingsRow.holds Try.pinned (OpenSpec.ofChange poolPostingsWrong)

/-- 'lombardlaw11.PoolRange': WHATEVER THE INPUT: true; the input reads as it did. -/
def poolRangeSpec : ChangeSpec := { name := "poolRange", fn := fun _ => fun
  | [d1, d2] => { results := [.lit (.bool true)], args := [d1, d2] }
  | _ => none }
def poolRangeRow : OpenClaim := { program := "ytbiiejolemcifaa", sum := "29a75ca1148a70b0ad50f327a61f270203abe9982542e703aa9c1bef047d7a23", func := "lombard/lombardlaw11.PoolRange", spec := "poolRange", unfollowed := true, recurses := true, apart := false }
def PoolRangeSaid : Prop := poolRangeRow.holds Try.pinned (OpenSpec.ofChange poolRangeSpec)

/-- ITS FALSE NEIGHBOUR: 'it returns false'. Refute it at one input. -/
def poolRangeWrong : ChangeSpec := { name := "poolRange", fn := fun _ => fun
  | [d1, d2] => { results := [.lit (.bool false)], args := [d1, d2] }
  | _ => none }
def PoolRangeWrongFalsely : Prop := poolRangeRow.holds Try.pinned (OpenSpec.ofChange poolRangeWrong)

/-- 'lombardlaw11.PoolCredit': WHATEVER THE INPUT: true; the input reads as it did. -/
def poolCreditSpec : ChangeSpec := { name := "poolCredit", fn := fun _ => fun
  | [d1, d2, d3] => { results := [.lit (.bool true)], args := [d1, d2, d3] }
  | _ => none }
def poolCreditRow : OpenClaim := { program := "ytbiiejolemcifaa", sum := "29a75ca1148a70b0ad50f327a61f270203abe9982542e703aa9c1bef047d7a23", func := "lombard/lombardlaw11.PoolCredit", spec := "poolCredit", unfollowed := true, recurses := true, apart := false }
def PoolCreditSaid : Prop := poolCreditRow.holds Try.pinned (OpenSpec.ofChange poolCreditSpec)

/-- ITS FALSE NEIGHBOUR: 'it returns false'. Refute it at one input. -/
def poolCreditWrong : ChangeSpec := { name := "poolCredit", fn := fun _ => fun
  | [d1, d2, d3] => { results := [.lit (.bool false)], args := [d1, d2, d3] }
  | _ => none }
def PoolCreditWrongFalsely : Prop := poolCreditRow.holds Try.pinned (OpenSpec.ofChange poolCreditWrong)

/-- 'lombardlaw11.PoolGives': WHATEVER THE INPUT: true; the input reads as it did. -/
def poolGivesSpec : ChangeSpec := { name := "poolGives", fn := fun _ => fun
  | [d1, d2, d3, d4, d5] => { results := [.lit (.bool true)], args := [d1, d2, d3, d4, d5] }
  | _ => none }
def poolGivesRow : OpenClaim := { program := "ytbiiejolemcifaa", sum := "29a75ca1148a70b0ad50f327a61f270203abe9982542e703aa9c1bef047d7a23", func := "lombard/lombardlaw11.PoolGives", spec := "poolGives", unfollowed := true, recurses := true, apart := false }
def PoolGivesSaid : Prop := poolGivesRow.holds Try.pinned (OpenSpec.ofChange poolGivesSpec)

/-- ITS FALSE NEIGHBOUR: 'it returns false'. Refute it at one input. -/
def poolGivesWrong : ChangeSpec := { name := "poolGives", fn := fun _ => fun
  | [d1, d2, d3, d4, d5] => { results := [.lit (.bool false)], args := [d1, d2, d3, d4, d5] }
  | _ => none }
def PoolGivesWrongFalsely : Prop := poolGivesRow.holds Try.pinned (OpenSpec.ofChange poolGivesWrong)

/-- 'lombardlaw11.PoolMoves': WHATEVER THE INPUT: true; the input reads as it did. -/
def poolMovesSpec : ChangeSpec := { name := "poolMoves", fn := fun _ => fun
  | [d1, d2, d3, d4, d5] => { results := [.lit (.bool true)], args := [d1, d2, d3, d4, d5] }
  | _ => none }
def poolMovesRow : OpenClaim := { program := "ytbiiejolemcifaa", sum := "29a75ca1148a70b0ad50f327a61f270203abe9982542e703aa9c1bef047d7a23", func := "lombard/lombardlaw11.PoolMoves", spec := "poolMoves", unfollowed := true, recurses := true, apart := false }
def PoolMovesSaid : Prop := poolMovesRow.holds Try.pinned (OpenSpec.ofChange poolMovesSpec)

/-- ITS FALSE NEIGHBOUR: 'it returns false'. Refute it at one input. -/
def poolMovesWrong : ChangeSpec := { name := "poolMoves", fn := fun _ => fun
  | [d1, d2, d3, d4, d5] => { results := [.lit (.bool false)], args := [d1, d2, d3, d4, d5] }
  | _ => none }
def PoolMovesWrongFalsely : Prop := poolMovesRow.holds Try.pinned (OpenSpec.ofChange poolMovesWrong)

/-- 'lombardlaw11.PoolBalanced': WHATEVER THE INPUT: true; the input reads as it did. -/
def poolBalancedSpec : ChangeSpec := { name := "poolBalanced", fn := fun _ => fun
  | [d1, d2, d3, d4, d5] => { results := [.lit (.bool true)], args := [d1, d2, d3, d4, d5] }
  | _ => none }
def poolBalancedRow : OpenClaim := { program := "ytbiiejolemcifaa", sum := "29a75ca1148a70b0ad50f327a61f270203abe9982542e703aa9c1bef047d7a23", func := "lombard/lombardlaw11.PoolBalanced", spec := "poolBalanced", unfollowed := true, recurses := true, apart := false }
def PoolBalancedSaid : Prop := poolBalancedRow.holds Try.pinned (OpenSpec.ofChange poolBalancedSpec)

/-- ITS FALSE NEIGHBOUR: 'it returns false'. Refute it at one input. -/
def poolBalancedWrong : ChangeSpec := { name := "poolBalanced", fn := fun _ => fun
  | [d1, d2, d3, d4, d5] => { results := [.lit (.bool false)], args := [d1, d2, d3, d4, d5] }
  | _ => none }
def PoolBalancedWrongFalsely : Prop := poolBalancedRow.holds Try.pinned (OpenSpec.ofChange poolBalancedWrong)

/- THE SECOND FORM. 'bulk': how many values and letters a reading holds, each counted each time it is reached (what is shared counts as often as it is met; a slice's spare places count too). A statement '..UptoSaid' is the law's where the arguments, and the package variables that the reading takes, are together of bulk at most 1048576: NARROWER than '..Said'. Prove '..Said' where nothing that the law and all that it calls make is longer than what came in: it says more and counts as full. Else prove '..UptoSaid'. A law counts once. -/
mutual
def uptoBulk {H : Type} : DataW H → Nat
  | .lit (.string bytes) => bytes.length + 1
  | .lit _ => 1
  | .nil => 1
  | .ptr d => uptoBulk d + 1
  | .slice elems spare => uptoBulkAll elems + uptoBulkAll spare + 1
  | .agg parts => uptoBulkAll parts + 1
  | .iface _ d => uptoBulk d + 1
  | .map entries => uptoBulkEntries entries + 1
  | .held _ => 1
def uptoBulkAll {H : Type} : List (DataW H) → Nat
  | [] => 0
  | d :: r => uptoBulk d + uptoBulkAll r
def uptoBulkEntries {H : Type} : List (Lit × DataW H) → Nat
  | [] => 0
  | x :: r => uptoBulkEntry x + uptoBulkEntries r
def uptoBulkEntry {H : Type} : Lit × DataW H → Nat
  | (.string bytes, d) => bytes.length + uptoBulk d + 1
  | (_, d) => uptoBulk d + 1
 end
def uptoSmall : (H : Type) → List (DataW H) → Bool := fun _ ds => decide (uptoBulkAll ds ≤ 1048576)
def OpenSpec.upto (s : _root_.Go.ChangeSpec) : _root_.Go.OpenSpec := { _root_.Go.OpenSpec.ofChange s with cond := some uptoSmall }

/-- 'lombardlaw11.PoolBears', WHERE WHAT IT READS IS OF BULK AT MOST 1048576: true; the input reads as it did. -/
def poolBearsUptoRow : OpenClaim := { program := "ytbiiejolemcifaa", sum := "29a75ca1148a70b0ad50f327a61f270203abe9982542e703aa9c1bef047d7a23", func := "lombard/lombardlaw11.PoolBears", spec := "poolBears", unfollowed := true, recurses := true, apart := false, narrowed := true }
def PoolBearsUptoSaid : Prop := poolBearsUptoRow.holds Try.pinned (OpenSpec.upto poolBearsSpec)

/-- 'lombardlaw11.PoolPostings', WHERE WHAT IT READS IS OF BULK AT MOST 1048576: true; the input reads as it did. -/
def poolPostingsUptoRow : OpenClaim := { program := "ytbiiejolemcifaa", sum := "29a75ca1148a70b0ad50f327a61f270203abe9982542e703aa9c1bef047d7a23", func := "lombard/lombardlaw11.PoolPostings", spec := "poolPostings", unfollowed := true, recurses := true, apart := false, narrowed := true }
def PoolPostingsUptoSaid : Prop := poolPostingsUptoRow.holds Try.pinned (OpenSpec.upto poolPostingsSpec)

/-- 'lombardlaw11.PoolRange', WHERE WHAT IT READS IS OF BULK AT MOST 1048576: true; the input reads as it did. -/
def poolRangeUptoRow : OpenClaim := { program := "ytbiiejolemcifaa", sum := "29a75ca1148a70b0ad50f327a61f270203abe9982542e703aa9c1bef047d7a23", func := "lombard/lombardlaw11.PoolRange", spec := "poolRange", unfollowed := true, recurses := true, apart := false, narrowed := true }
def PoolRangeUptoSaid : Prop := poolRangeUptoRow.holds Try.pinned (OpenSpec.upto poolRangeSpec)

/-- 'lombardlaw11.PoolCredit', WHERE WHAT IT READS IS OF BULK AT MOST 1048576: true; the input reads as it did. -/
def poolCreditUptoRow : OpenClaim := { program := "ytbiiejolemcifaa", sum := "29a75ca1148a70b0ad50f327a61f270203abe9982542e703aa9c1bef047d7a23", func := "lombard/lombardlaw11.PoolCredit", spec := "poolCredit", unfollowed := true, recurses := true, apart := false, narrowed := true }
def PoolCreditUptoSaid : Prop := poolCreditUptoRow.holds Try.pinned (OpenSpec.upto poolCreditSpec)

/-- 'lombardlaw11.PoolGives', WHERE WHAT IT READS IS OF BULK AT MOST 1048576: true; the input reads as it did. -/
def poolGivesUptoRow : OpenClaim := { program := "ytbiiejolemcifaa", sum := "29a75ca1148a70b0ad50f327a61f270203abe9982542e703aa9c1bef047d7a23", func := "lombard/lombardlaw11.PoolGives", spec := "poolGives", unfollowed := true, recurses := true, apart := false, narrowed := true }
def PoolGivesUptoSaid : Prop := poolGivesUptoRow.holds Try.pinned (OpenSpec.upto poolGivesSpec)

/-- 'lombardlaw11.PoolMoves', WHERE WHAT IT READS IS OF BULK AT MOST 1048576: true; the input reads as it did. -/
def poolMovesUptoRow : OpenClaim := { program := "ytbiiejolemcifaa", sum := "29a75ca1148a70b0ad50f327a61f270203abe9982542e703aa9c1bef047d7a23", func := "lombard/lombardlaw11.PoolMoves", spec := "poolMoves", unfollowed := true, recurses := true, apart := false, narrowed := true }
def PoolMovesUptoSaid : Prop := poolMovesUptoRow.holds Try.pinned (OpenSpec.upto poolMovesSpec)

/-- 'lombardlaw11.PoolBalanced', WHERE WHAT IT READS IS OF BULK AT MOST 1048576: true; the input reads as it did. -/
def poolBalancedUptoRow : OpenClaim := { program := "ytbiiejolemcifaa", sum := "29a75ca1148a70b0ad50f327a61f270203abe9982542e703aa9c1bef047d7a23", func := "lombard/lombardlaw11.PoolBalanced", spec := "poolBalanced", unfollowed := true, recurses := true, apart := false, narrowed := true }
def PoolBalancedUptoSaid : Prop := poolBalancedUptoRow.holds Try.pinned (OpenSpec.upto poolBalancedSpec)

end Rows
end Go.Proofs.Ytbiiejolemcifaa
