/-
  No cell of these rows narrows 'for every input' (looked for: loops, veiled, ifaces, maps, wideKeys, modest, calm, conditions, laid).
  DERIVED. THE GIVEN ROWS OF THIS SEAT. 11 by the template 'for every input the law returns true; each argument reads behind the call as it read before'; 0 by the template 'total and deterministic' (their statements: YtghmhgeakpjfkaaTotals.lean).
  GIVEN WITH THE SEED: the statements are not yours to turn. If you find one false, say at which input.
  Laid BY PROGRAM, IN A SANDBOX (cutbox-rows.mjs): the forced cells as the released guide's own fill.sh prints them over the translation 5085cf3f8cb89f99… (all of the seat's roots in one cut). By AI agents, Wed Nov 11 2026. No macro, syntax, notation, axiom, sorry.
-/
import Derived.Test.YtghmhgeakpjfkaaChecked
import GoSem.Claim
import GoSem.ClaimJoined
import GoSem.ClaimMapViews
import Derived.JoinedTies
import Derived.KernelRfl
namespace Go.Proofs.Ytghmhgeakpjfkaa
/- THE CELL 'sum', in the pinned program and in every row, IS THE sha256 OF THE DUMP (.gsa) THAT YtghmhgeakpjfkaaProg.lean LOADS. Nothing in Lean hashes anything: it is a label: what it is worth is what the hold of that sum in a sandbox is worth. -/
noncomputable def Try.pinned : Pinned := { name := "ytghmhgeakpjfkaa", sum := "5085cf3f8cb89f9960a5c17186a6902795d2644512090f334bb9eed962c12366", checked := Try.checked }
namespace Rows
def none {H : Type} : Left H := { results := [], args := [] }

/-- 'lombardlaw04.BothTell': WHATEVER THE INPUT: true; the input reads as it did. -/
def bothTellSpec : ChangeSpec := { name := "bothTell", fn := fun _ => fun
  | [d1, d2, d3] => { results := [.lit (.bool true)], args := [d1, d2, d3] }
  | _ => none }
def bothTellRow : OpenClaim := { program := "ytghmhgeakpjfkaa", sum := "5085cf3f8cb89f9960a5c17186a6902795d2644512090f334bb9eed962c12366", func := "lombard/lombardlaw04.BothTell", spec := "bothTell", inPlace := ["math.archTrunc", "math.Float64bits", "math.Float64frombits"], unfollowed := true, recurses := true, apart := false }
def BothTellSaid : Prop := bothTellRow.holds Try.pinned (OpenSpec.ofChange bothTellSpec)

/-- ITS FALSE NEIGHBOUR: 'it returns false'. Refute it at one input. -/
def bothTellWrong : ChangeSpec := { name := "bothTell", fn := fun _ => fun
  | [d1, d2, d3] => { results := [.lit (.bool false)], args := [d1, d2, d3] }
  | _ => none }
def BothTellWrongFalsely : Prop := bothTellRow.holds Try.pinned (OpenSpec.ofChange bothTellWrong)

/-- 'lombardlaw04.BothOrder': WHATEVER THE INPUT: true; the input reads as it did. -/
def bothOrderSpec : ChangeSpec := { name := "bothOrder", fn := fun _ => fun
  | [d1, d2] => { results := [.lit (.bool true)], args := [d1, d2] }
  | _ => none }
def bothOrderRow : OpenClaim := { program := "ytghmhgeakpjfkaa", sum := "5085cf3f8cb89f9960a5c17186a6902795d2644512090f334bb9eed962c12366", func := "lombard/lombardlaw04.BothOrder", spec := "bothOrder", inPlace := ["math.archTrunc", "math.Float64bits", "math.Float64frombits"], unfollowed := true, recurses := true, apart := false }
def BothOrderSaid : Prop := bothOrderRow.holds Try.pinned (OpenSpec.ofChange bothOrderSpec)

/-- ITS FALSE NEIGHBOUR: 'it returns false'. Refute it at one input. -/
def bothOrderWrong : ChangeSpec := { name := "bothOrder", fn := fun _ => fun
  | [d1, d2] => { results := [.lit (.bool false)], args := [d1, d2] }
  | _ => none }
def BothOrderWrongFalsely : Prop := bothOrderRow.holds Try.pinned (OpenSpec.ofChange bothOrderWrong)

/-- 'lombardlaw04.BothBroken': WHATEVER THE INPUT: true; the input reads as it did. -/
def bothBrokenSpec : ChangeSpec := { name := "bothBroken", fn := fun _ => fun
  | [d1, d2, d3] => { results := [.lit (.bool true)], args := [d1, d2, d3] }
  | _ => none }
def bothBrokenRow : OpenClaim := { program := "ytghmhgeakpjfkaa", sum := "5085cf3f8cb89f9960a5c17186a6902795d2644512090f334bb9eed962c12366", func := "lombard/lombardlaw04.BothBroken", spec := "bothBroken", inPlace := ["math.archTrunc", "math.Float64bits", "math.Float64frombits"], unfollowed := true, recurses := true, apart := false }
def BothBrokenSaid : Prop := bothBrokenRow.holds Try.pinned (OpenSpec.ofChange bothBrokenSpec)

/-- ITS FALSE NEIGHBOUR: 'it returns false'. Refute it at one input. -/
def bothBrokenWrong : ChangeSpec := { name := "bothBroken", fn := fun _ => fun
  | [d1, d2, d3] => { results := [.lit (.bool false)], args := [d1, d2, d3] }
  | _ => none }
def BothBrokenWrongFalsely : Prop := bothBrokenRow.holds Try.pinned (OpenSpec.ofChange bothBrokenWrong)

/-- 'lombardlaw04.BothBound': WHATEVER THE INPUT: true; the input reads as it did. -/
def bothBoundSpec : ChangeSpec := { name := "bothBound", fn := fun _ => fun
  | [d1, d2, d3] => { results := [.lit (.bool true)], args := [d1, d2, d3] }
  | _ => none }
def bothBoundRow : OpenClaim := { program := "ytghmhgeakpjfkaa", sum := "5085cf3f8cb89f9960a5c17186a6902795d2644512090f334bb9eed962c12366", func := "lombard/lombardlaw04.BothBound", spec := "bothBound", inPlace := ["math.archTrunc", "math.Float64bits", "math.Float64frombits"], unfollowed := true, recurses := true, apart := false }
def BothBoundSaid : Prop := bothBoundRow.holds Try.pinned (OpenSpec.ofChange bothBoundSpec)

/-- ITS FALSE NEIGHBOUR: 'it returns false'. Refute it at one input. -/
def bothBoundWrong : ChangeSpec := { name := "bothBound", fn := fun _ => fun
  | [d1, d2, d3] => { results := [.lit (.bool false)], args := [d1, d2, d3] }
  | _ => none }
def BothBoundWrongFalsely : Prop := bothBoundRow.holds Try.pinned (OpenSpec.ofChange bothBoundWrong)

/-- 'lombardlaw01.CashShares': WHATEVER THE INPUT: true; the input reads as it did. -/
def cashSharesSpec : ChangeSpec := { name := "cashShares", fn := fun _ => fun
  | [d1, d2, d3, d4, d5, d6] => { results := [.lit (.bool true)], args := [d1, d2, d3, d4, d5, d6] }
  | _ => none }
def cashSharesRow : OpenClaim := { program := "ytghmhgeakpjfkaa", sum := "5085cf3f8cb89f9960a5c17186a6902795d2644512090f334bb9eed962c12366", func := "lombard/lombardlaw01.CashShares", spec := "cashShares", named := ["math/bits.divideError", "math/bits.overflowError"], apart := false }
def CashSharesSaid : Prop := cashSharesRow.holds Try.pinned (OpenSpec.ofChange cashSharesSpec)

/-- ITS FALSE NEIGHBOUR: 'it returns false'. Refute it at one input. -/
def cashSharesWrong : ChangeSpec := { name := "cashShares", fn := fun _ => fun
  | [d1, d2, d3, d4, d5, d6] => { results := [.lit (.bool false)], args := [d1, d2, d3, d4, d5, d6] }
  | _ => none }
def CashSharesWrongFalsely : Prop := cashSharesRow.holds Try.pinned (OpenSpec.ofChange cashSharesWrong)

/-- 'lombardlaw01.CashHalf': WHATEVER THE INPUT: true; the input reads as it did. -/
def cashHalfSpec : ChangeSpec := { name := "cashHalf", fn := fun _ => fun
  | [d1, d2, d3] => { results := [.lit (.bool true)], args := [d1, d2, d3] }
  | _ => none }
def cashHalfRow : OpenClaim := { program := "ytghmhgeakpjfkaa", sum := "5085cf3f8cb89f9960a5c17186a6902795d2644512090f334bb9eed962c12366", func := "lombard/lombardlaw01.CashHalf", spec := "cashHalf", named := ["math/bits.divideError", "math/bits.overflowError"], apart := false }
def CashHalfSaid : Prop := cashHalfRow.holds Try.pinned (OpenSpec.ofChange cashHalfSpec)

/-- ITS FALSE NEIGHBOUR: 'it returns false'. Refute it at one input. -/
def cashHalfWrong : ChangeSpec := { name := "cashHalf", fn := fun _ => fun
  | [d1, d2, d3] => { results := [.lit (.bool false)], args := [d1, d2, d3] }
  | _ => none }
def CashHalfWrongFalsely : Prop := cashHalfRow.holds Try.pinned (OpenSpec.ofChange cashHalfWrong)

/-- 'lombardlaw01.CashWhole': WHATEVER THE INPUT: true; the input reads as it did. -/
def cashWholeSpec : ChangeSpec := { name := "cashWhole", fn := fun _ => fun
  | [d1, d2] => { results := [.lit (.bool true)], args := [d1, d2] }
  | _ => none }
def cashWholeRow : OpenClaim := { program := "ytghmhgeakpjfkaa", sum := "5085cf3f8cb89f9960a5c17186a6902795d2644512090f334bb9eed962c12366", func := "lombard/lombardlaw01.CashWhole", spec := "cashWhole", named := ["math/bits.divideError", "math/bits.overflowError"], apart := false }
def CashWholeSaid : Prop := cashWholeRow.holds Try.pinned (OpenSpec.ofChange cashWholeSpec)

/-- ITS FALSE NEIGHBOUR: 'it returns false'. Refute it at one input. -/
def cashWholeWrong : ChangeSpec := { name := "cashWhole", fn := fun _ => fun
  | [d1, d2] => { results := [.lit (.bool false)], args := [d1, d2] }
  | _ => none }
def CashWholeWrongFalsely : Prop := cashWholeRow.holds Try.pinned (OpenSpec.ofChange cashWholeWrong)

/-- 'lombardlaw01.CashQuotient': WHATEVER THE INPUT: true; the input reads as it did. -/
def cashQuotientSpec : ChangeSpec := { name := "cashQuotient", fn := fun _ => fun
  | [d1, d2, d3] => { results := [.lit (.bool true)], args := [d1, d2, d3] }
  | _ => none }
def cashQuotientRow : OpenClaim := { program := "ytghmhgeakpjfkaa", sum := "5085cf3f8cb89f9960a5c17186a6902795d2644512090f334bb9eed962c12366", func := "lombard/lombardlaw01.CashQuotient", spec := "cashQuotient", named := ["math/bits.divideError", "math/bits.overflowError"], apart := false }
def CashQuotientSaid : Prop := cashQuotientRow.holds Try.pinned (OpenSpec.ofChange cashQuotientSpec)

/-- ITS FALSE NEIGHBOUR: 'it returns false'. Refute it at one input. -/
def cashQuotientWrong : ChangeSpec := { name := "cashQuotient", fn := fun _ => fun
  | [d1, d2, d3] => { results := [.lit (.bool false)], args := [d1, d2, d3] }
  | _ => none }
def CashQuotientWrongFalsely : Prop := cashQuotientRow.holds Try.pinned (OpenSpec.ofChange cashQuotientWrong)

/-- 'lombardlaw01.CashTies': WHATEVER THE INPUT: true; the input reads as it did. -/
def cashTiesSpec : ChangeSpec := { name := "cashTies", fn := fun _ => fun
  | [d] => { results := [.lit (.bool true)], args := [d] }
  | _ => none }
def cashTiesRow : OpenClaim := { program := "ytghmhgeakpjfkaa", sum := "5085cf3f8cb89f9960a5c17186a6902795d2644512090f334bb9eed962c12366", func := "lombard/lombardlaw01.CashTies", spec := "cashTies", named := ["math/bits.divideError", "math/bits.overflowError"], apart := false }
def CashTiesSaid : Prop := cashTiesRow.holds Try.pinned (OpenSpec.ofChange cashTiesSpec)

/-- ITS FALSE NEIGHBOUR: 'it returns false'. Refute it at one input. -/
def cashTiesWrong : ChangeSpec := { name := "cashTies", fn := fun _ => fun
  | [d] => { results := [.lit (.bool false)], args := [d] }
  | _ => none }
def CashTiesWrongFalsely : Prop := cashTiesRow.holds Try.pinned (OpenSpec.ofChange cashTiesWrong)

/-- 'lombardlaw01.CashSums': WHATEVER THE INPUT: true; the input reads as it did. -/
def cashSumsSpec : ChangeSpec := { name := "cashSums", fn := fun _ => fun
  | [d1, d2, d3] => { results := [.lit (.bool true)], args := [d1, d2, d3] }
  | _ => none }
def cashSumsRow : OpenClaim := { program := "ytghmhgeakpjfkaa", sum := "5085cf3f8cb89f9960a5c17186a6902795d2644512090f334bb9eed962c12366", func := "lombard/lombardlaw01.CashSums", spec := "cashSums", unfollowed := true, recurses := true, named := ["math/bits.divideError", "math/bits.overflowError"], apart := false }
def CashSumsSaid : Prop := cashSumsRow.holds Try.pinned (OpenSpec.ofChange cashSumsSpec)

/-- ITS FALSE NEIGHBOUR: 'it returns false'. Refute it at one input. -/
def cashSumsWrong : ChangeSpec := { name := "cashSums", fn := fun _ => fun
  | [d1, d2, d3] => { results := [.lit (.bool false)], args := [d1, d2, d3] }
  | _ => none }
def CashSumsWrongFalsely : Prop := cashSumsRow.holds Try.pinned (OpenSpec.ofChange cashSumsWrong)

/-- 'lombardlaw01.CashBounds': WHATEVER THE INPUT: true; the input reads as it did. -/
def cashBoundsSpec : ChangeSpec := { name := "cashBounds", fn := fun _ => fun
  | [d1, d2] => { results := [.lit (.bool true)], args := [d1, d2] }
  | _ => none }
def cashBoundsRow : OpenClaim := { program := "ytghmhgeakpjfkaa", sum := "5085cf3f8cb89f9960a5c17186a6902795d2644512090f334bb9eed962c12366", func := "lombard/lombardlaw01.CashBounds", spec := "cashBounds", named := ["math/bits.divideError", "math/bits.overflowError"], apart := false }
def CashBoundsSaid : Prop := cashBoundsRow.holds Try.pinned (OpenSpec.ofChange cashBoundsSpec)

/-- ITS FALSE NEIGHBOUR: 'it returns false'. Refute it at one input. -/
def cashBoundsWrong : ChangeSpec := { name := "cashBounds", fn := fun _ => fun
  | [d1, d2] => { results := [.lit (.bool false)], args := [d1, d2] }
  | _ => none }
def CashBoundsWrongFalsely : Prop := cashBoundsRow.holds Try.pinned (OpenSpec.ofChange cashBoundsWrong)

/- THE SECOND FORM. 'bulk': how many values and letters a reading holds, each counted each time it is reached (what is shared counts as often as it is met; a slice's spare places count too). A statement '..UptoSaid' is the law's where the arguments, and the package variables that the reading takes, are together of bulk at most 1048576: NARROWER than '..Said'. Prove '..Said' where nothing that the law and all that it calls make is longer than what came in: it says more and counts as full. Else prove '..UptoSaid'. A law counts once. -/
mutual
def uptoBulk {H : Type} : DataW H → Nat
  | .lit (.string bytes) => bytes.length + 1
  | .lit _ => 1
  | .nil => 1
  | .ptr d => uptoBulk d + 1
  | .slice elems spare => uptoBulkAll elems + uptoBulkAll spare + 1
  | .agg parts => uptoBulkAll parts + 1
  | .iface _ d => uptoBulk d + 1
  | .map entries => uptoBulkEntries entries + 1
  | .held _ => 1
def uptoBulkAll {H : Type} : List (DataW H) → Nat
  | [] => 0
  | d :: r => uptoBulk d + uptoBulkAll r
def uptoBulkEntries {H : Type} : List (Lit × DataW H) → Nat
  | [] => 0
  | x :: r => uptoBulkEntry x + uptoBulkEntries r
def uptoBulkEntry {H : Type} : Lit × DataW H → Nat
  | (.string bytes, d) => bytes.length + uptoBulk d + 1
  | (_, d) => uptoBulk d + 1
 end
def uptoSmall : (H : Type) → List (DataW H) → Bool := fun _ ds => decide (uptoBulkAll ds ≤ 1048576)
def OpenSpec.upto (s : _root_.Go.ChangeSpec) : _root_.Go.OpenSpec := { _root_.Go.OpenSpec.ofChange s with cond := some uptoSmall }

/-- 'lombardlaw04.BothTell', WHERE WHAT IT READS IS OF BULK AT MOST 1048576: true; the input reads as it did. -/
def bothTellUptoRow : OpenClaim := { program := "ytghmhgeakpjfkaa", sum := "5085cf3f8cb89f9960a5c17186a6902795d2644512090f334bb9eed962c12366", func := "lombard/lombardlaw04.BothTell", spec := "bothTell", inPlace := ["math.archTrunc", "math.Float64bits", "math.Float64frombits"], unfollowed := true, recurses := true, apart := false, narrowed := true }
def BothTellUptoSaid : Prop := bothTellUptoRow.holds Try.pinned (OpenSpec.upto bothTellSpec)

/-- 'lombardlaw04.BothOrder', WHERE WHAT IT READS IS OF BULK AT MOST 1048576: true; the input reads as it did. -/
def bothOrderUptoRow : OpenClaim := { program := "ytghmhgeakpjfkaa", sum := "5085cf3f8cb89f9960a5c17186a6902795d2644512090f334bb9eed962c12366", func := "lombard/lombardlaw04.BothOrder", spec := "bothOrder", inPlace := ["math.archTrunc", "math.Float64bits", "math.Float64frombits"], unfollowed := true, recurses := true, apart := false, narrowed := true }
def BothOrderUptoSaid : Prop := bothOrderUptoRow.holds Try.pinned (OpenSpec.upto bothOrderSpec)

/-- 'lombardlaw04.BothBroken', WHERE WHAT IT READS IS OF BULK AT MOST 1048576: true; the input reads as it did. -/
def bothBrokenUptoRow : OpenClaim := { program := "ytghmhgeakpjfkaa", sum := "5085cf3f8cb89f9960a5c17186a6902795d2644512090f334bb9eed962c12366", func := "lombard/lombardlaw04.BothBroken", spec := "bothBroken", inPlace := ["math.archTrunc", "math.Float64bits", "math.Float64frombits"], unfollowed := true, recurses := true, apart := false, narrowed := true }
def BothBrokenUptoSaid : Prop := bothBrokenUptoRow.holds Try.pinned (OpenSpec.upto bothBrokenSpec)

/-- 'lombardlaw04.BothBound', WHERE WHAT IT READS IS OF BULK AT MOST 1048576: true; the input reads as it did. -/
def bothBoundUptoRow : OpenClaim := { program := "ytghmhgeakpjfkaa", sum := "5085cf3f8cb89f9960a5c17186a6902795d2644512090f334bb9eed962c12366", func := "lombard/lombardlaw04.BothBound", spec := "bothBound", inPlace := ["math.archTrunc", "math.Float64bits", "math.Float64frombits"], unfollowed := true, recurses := true, apart := false, narrowed := true }
def BothBoundUptoSaid : Prop := bothBoundUptoRow.holds Try.pinned (OpenSpec.upto bothBoundSpec)

/-- 'lombardlaw01.CashShares', WHERE WHAT IT READS IS OF BULK AT MOST 1048576: true; the input reads as it did. -/
def cashSharesUptoRow : OpenClaim := { program := "ytghmhgeakpjfkaa", sum := "5085cf3f8cb89f9960a5c17186a6902795d2644512090f334bb9eed962c12366", func := "lombard/lombardlaw01.CashShares", spec := "cashShares", named := ["math/bits.divideError", "math/bits.overflowError"], apart := false, narrowed := true }
def CashSharesUptoSaid : Prop := cashSharesUptoRow.holds Try.pinned (OpenSpec.upto cashSharesSpec)

/-- 'lombardlaw01.CashHalf', WHERE WHAT IT READS IS OF BULK AT MOST 1048576: true; the input reads as it did. -/
def cashHalfUptoRow : OpenClaim := { program := "ytghmhgeakpjfkaa", sum := "5085cf3f8cb89f9960a5c17186a6902795d2644512090f334bb9eed962c12366", func := "lombard/lombardlaw01.CashHalf", spec := "cashHalf", named := ["math/bits.divideError", "math/bits.overflowError"], apart := false, narrowed := true }
def CashHalfUptoSaid : Prop := cashHalfUptoRow.holds Try.pinned (OpenSpec.upto cashHalfSpec)

/-- 'lombardlaw01.CashWhole', WHERE WHAT IT READS IS OF BULK AT MOST 1048576: true; the input reads as it did. -/
def cashWholeUptoRow : OpenClaim := { program := "ytghmhgeakpjfkaa", sum := "5085cf3f8cb89f9960a5c17186a6902795d2644512090f334bb9eed962c12366", func := "lombard/lombardlaw01.CashWhole", spec := "cashWhole", named := ["math/bits.divideError", "math/bits.overflowError"], apart := false, narrowed := true }
def CashWholeUptoSaid : Prop := cashWholeUptoRow.holds Try.pinned (OpenSpec.upto cashWholeSpec)

/-- 'lombardlaw01.CashQuotient', WHERE WHAT IT READS IS OF BULK AT MOST 1048576: true; the input reads as it did. -/
def cashQuotientUptoRow : OpenClaim := { program := "ytghmhgeakpjfkaa", sum := "5085cf3f8cb89f9960a5c17186a6902795d2644512090f334bb9eed962c12366", func := "lombard/lombardlaw01.CashQuotient", spec := "cashQuotient", named := ["math/bits.divideError", "math/bits.overflowError"], apart := false, narrowed := true }
def CashQuotientUptoSaid : Prop := cashQuotientUptoRow.holds Try.pinned (OpenSpec.upto cashQuotientSpec)

/-- 'lombardlaw01.CashTies', WHERE WHAT IT READS IS OF BULK AT MOST 1048576: true; the input reads as it did. -/
def cashTiesUptoRow : OpenClaim := { program := "ytghmhgeakpjfkaa", sum := "5085cf3f8cb89f9960a5c17186a6902795d2644512090f334bb9eed962c12366", func := "lombard/lombardlaw01.CashTies", spec := "cashTies", named := ["math/bits.divideError", "math/bits.overflowError"], apart := false, narrowed := true }
def CashTiesUptoSaid : Prop := cashTiesUptoRow.holds Try.pinned (OpenSpec.upto cashTiesSpec)

/-- 'lombardlaw01.CashSums', WHERE WHAT IT READS IS OF BULK AT MOST 1048576: true; the input reads as it did. -/
def cashSumsUptoRow : OpenClaim := { program := "ytghmhgeakpjfkaa", sum := "5085cf3f8cb89f9960a5c17186a6902795d2644512090f334bb9eed962c12366", func := "lombard/lombardlaw01.CashSums", spec := "cashSums", unfollowed := true, recurses := true, named := ["math/bits.divideError", "math/bits.overflowError"], apart := false, narrowed := true }
def CashSumsUptoSaid : Prop := cashSumsUptoRow.holds Try.pinned (OpenSpec.upto cashSumsSpec)

/-- 'lombardlaw01.CashBounds', WHERE WHAT IT READS IS OF BULK AT MOST 1048576: true; the input reads as it did. -/
def cashBoundsUptoRow : OpenClaim := { program := "ytghmhgeakpjfkaa", sum := "5085cf3f8cb89f9960a5c17186a6902795d2644512090f334bb9eed962c12366", func := "lombard/lombardlaw01.CashBounds", spec := "cashBounds", named := ["math/bits.divideError", "math/bits.overflowError"], apart := false, narrowed := true }
def CashBoundsUptoSaid : Prop := cashBoundsUptoRow.holds Try.pinned (OpenSpec.upto cashBoundsSpec)

end Rows
end Go.Proofs.Ytghmhgeakpjfkaa
