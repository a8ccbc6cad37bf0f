/-
  No cell of these rows narrows 'for every input' (looked for: loops, veiled, ifaces, maps, wideKeys, modest, calm, conditions, laid).
  DERIVED. THE GIVEN ROWS OF THIS SEAT. 8 by the template 'for every input the law returns true; each argument reads behind the call as it read before'; 0 by the template 'total and deterministic' (their statements: YtdjfpbjlmojikaaTotals.lean).
  GIVEN WITH THE SEED: the statements are not yours to turn. If you find one false, say at which input.
  Laid BY PROGRAM, IN A SANDBOX (cutbox-rows.mjs): the forced cells as the released guide's own fill.sh prints them over the translation ad679c229c176d8d… (all of the seat's roots in one cut). By AI agents, Wed Nov 11 2026. No macro, syntax, notation, axiom, sorry.
-/
import Derived.Test.YtdjfpbjlmojikaaChecked
import GoSem.Claim
import GoSem.ClaimJoined
import GoSem.ClaimMapViews
import Derived.JoinedTies
import Derived.KernelRfl
namespace Go.Proofs.Ytdjfpbjlmojikaa
/- THE CELL 'sum', in the pinned program and in every row, IS THE sha256 OF THE DUMP (.gsa) THAT YtdjfpbjlmojikaaProg.lean LOADS. Nothing in Lean hashes anything: it is a label: what it is worth is what the hold of that sum in a sandbox is worth. -/
noncomputable def Try.pinned : Pinned := { name := "ytdjfpbjlmojikaa", sum := "ad679c229c176d8d9e56671698df32833fe2331fb56f32d467b94e26a112012f", checked := Try.checked }
namespace Rows
def none {H : Type} : Left H := { results := [], args := [] }

/-- 'lombardlaw06.TermsBounds': WHATEVER THE INPUT: true; the input reads as it did. -/
def termsBoundsSpec : ChangeSpec := { name := "termsBounds", fn := fun _ => fun
  | [d1, d2, d3] => { results := [.lit (.bool true)], args := [d1, d2, d3] }
  | _ => none }
def termsBoundsRow : OpenClaim := { program := "ytdjfpbjlmojikaa", sum := "ad679c229c176d8d9e56671698df32833fe2331fb56f32d467b94e26a112012f", func := "lombard/lombardlaw06.TermsBounds", spec := "termsBounds", apart := false }
def TermsBoundsSaid : Prop := termsBoundsRow.holds Try.pinned (OpenSpec.ofChange termsBoundsSpec)

/-- ITS FALSE NEIGHBOUR: 'it returns false'. Refute it at one input. -/
def termsBoundsWrong : ChangeSpec := { name := "termsBounds", fn := fun _ => fun
  | [d1, d2, d3] => { results := [.lit (.bool false)], args := [d1, d2, d3] }
  | _ => none }
def TermsBoundsWrongFalsely : Prop := termsBoundsRow.holds Try.pinned (OpenSpec.ofChange termsBoundsWrong)

/-- 'lombardlaw07.EventKinds': WHATEVER THE INPUT: true; the input reads as it did. -/
def eventKindsSpec : ChangeSpec := { name := "eventKinds", fn := fun _ => fun
  | [d1, d2, d3, d4] => { results := [.lit (.bool true)], args := [d1, d2, d3, d4] }
  | _ => none }
def eventKindsRow : OpenClaim := { program := "ytdjfpbjlmojikaa", sum := "ad679c229c176d8d9e56671698df32833fe2331fb56f32d467b94e26a112012f", func := "lombard/lombardlaw07.EventKinds", spec := "eventKinds", apart := false }
def EventKindsSaid : Prop := eventKindsRow.holds Try.pinned (OpenSpec.ofChange eventKindsSpec)

/-- ITS FALSE NEIGHBOUR: 'it returns false'. Refute it at one input. -/
def eventKindsWrong : ChangeSpec := { name := "eventKinds", fn := fun _ => fun
  | [d1, d2, d3, d4] => { results := [.lit (.bool false)], args := [d1, d2, d3, d4] }
  | _ => none }
def EventKindsWrongFalsely : Prop := eventKindsRow.holds Try.pinned (OpenSpec.ofChange eventKindsWrong)

/-- 'lombardlaw07.EventDays': WHATEVER THE INPUT: true; the input reads as it did. -/
def eventDaysSpec : ChangeSpec := { name := "eventDays", fn := fun _ => fun
  | [d1, d2] => { results := [.lit (.bool true)], args := [d1, d2] }
  | _ => none }
def eventDaysRow : OpenClaim := { program := "ytdjfpbjlmojikaa", sum := "ad679c229c176d8d9e56671698df32833fe2331fb56f32d467b94e26a112012f", func := "lombard/lombardlaw07.EventDays", spec := "eventDays", apart := false }
def EventDaysSaid : Prop := eventDaysRow.holds Try.pinned (OpenSpec.ofChange eventDaysSpec)

/-- ITS FALSE NEIGHBOUR: 'it returns false'. Refute it at one input. -/
def eventDaysWrong : ChangeSpec := { name := "eventDays", fn := fun _ => fun
  | [d1, d2] => { results := [.lit (.bool false)], args := [d1, d2] }
  | _ => none }
def EventDaysWrongFalsely : Prop := eventDaysRow.holds Try.pinned (OpenSpec.ofChange eventDaysWrong)

/-- 'lombardlaw07.EventTells': WHATEVER THE INPUT: true; the input reads as it did. -/
def eventTellsSpec : ChangeSpec := { name := "eventTells", fn := fun _ => fun
  | [d1, d2, d3] => { results := [.lit (.bool true)], args := [d1, d2, d3] }
  | _ => none }
def eventTellsRow : OpenClaim := { program := "ytdjfpbjlmojikaa", sum := "ad679c229c176d8d9e56671698df32833fe2331fb56f32d467b94e26a112012f", func := "lombard/lombardlaw07.EventTells", spec := "eventTells", unfollowed := true, recurses := true, apart := false }
def EventTellsSaid : Prop := eventTellsRow.holds Try.pinned (OpenSpec.ofChange eventTellsSpec)

/-- ITS FALSE NEIGHBOUR: 'it returns false'. Refute it at one input. -/
def eventTellsWrong : ChangeSpec := { name := "eventTells", fn := fun _ => fun
  | [d1, d2, d3] => { results := [.lit (.bool false)], args := [d1, d2, d3] }
  | _ => none }
def EventTellsWrongFalsely : Prop := eventTellsRow.holds Try.pinned (OpenSpec.ofChange eventTellsWrong)

/-- 'lombardlaw07.EventBack': WHATEVER THE INPUT: true; the input reads as it did. -/
def eventBackSpec : ChangeSpec := { name := "eventBack", fn := fun _ => fun
  | [d1, d2] => { results := [.lit (.bool true)], args := [d1, d2] }
  | _ => none }
def eventBackRow : OpenClaim := { program := "ytdjfpbjlmojikaa", sum := "ad679c229c176d8d9e56671698df32833fe2331fb56f32d467b94e26a112012f", func := "lombard/lombardlaw07.EventBack", spec := "eventBack", apart := false }
def EventBackSaid : Prop := eventBackRow.holds Try.pinned (OpenSpec.ofChange eventBackSpec)

/-- ITS FALSE NEIGHBOUR: 'it returns false'. Refute it at one input. -/
def eventBackWrong : ChangeSpec := { name := "eventBack", fn := fun _ => fun
  | [d1, d2] => { results := [.lit (.bool false)], args := [d1, d2] }
  | _ => none }
def EventBackWrongFalsely : Prop := eventBackRow.holds Try.pinned (OpenSpec.ofChange eventBackWrong)

/-- 'lombardlaw06.TermsPack': WHATEVER THE INPUT: true; the input reads as it did. -/
def termsPackSpec : ChangeSpec := { name := "termsPack", fn := fun _ => fun
  | [d1, d2] => { results := [.lit (.bool true)], args := [d1, d2] }
  | _ => none }
def termsPackRow : OpenClaim := { program := "ytdjfpbjlmojikaa", sum := "ad679c229c176d8d9e56671698df32833fe2331fb56f32d467b94e26a112012f", func := "lombard/lombardlaw06.TermsPack", spec := "termsPack", unfollowed := true, recurses := true, apart := false }
def TermsPackSaid : Prop := termsPackRow.holds Try.pinned (OpenSpec.ofChange termsPackSpec)

/-- ITS FALSE NEIGHBOUR: 'it returns false'. Refute it at one input. -/
def termsPackWrong : ChangeSpec := { name := "termsPack", fn := fun _ => fun
  | [d1, d2] => { results := [.lit (.bool false)], args := [d1, d2] }
  | _ => none }
def TermsPackWrongFalsely : Prop := termsPackRow.holds Try.pinned (OpenSpec.ofChange termsPackWrong)

/-- 'lombardlaw06.TermsBack': WHATEVER THE INPUT: true; the input reads as it did. -/
def termsBackSpec : ChangeSpec := { name := "termsBack", fn := fun _ => fun
  | [d1, d2, d3] => { results := [.lit (.bool true)], args := [d1, d2, d3] }
  | _ => none }
def termsBackRow : OpenClaim := { program := "ytdjfpbjlmojikaa", sum := "ad679c229c176d8d9e56671698df32833fe2331fb56f32d467b94e26a112012f", func := "lombard/lombardlaw06.TermsBack", spec := "termsBack", unfollowed := true, recurses := true, apart := false }
def TermsBackSaid : Prop := termsBackRow.holds Try.pinned (OpenSpec.ofChange termsBackSpec)

/-- ITS FALSE NEIGHBOUR: 'it returns false'. Refute it at one input. -/
def termsBackWrong : ChangeSpec := { name := "termsBack", fn := fun _ => fun
  | [d1, d2, d3] => { results := [.lit (.bool false)], args := [d1, d2, d3] }
  | _ => none }
def TermsBackWrongFalsely : Prop := termsBackRow.holds Try.pinned (OpenSpec.ofChange termsBackWrong)

/-- 'lombardlaw06.TermsTurned': WHATEVER THE INPUT: true; the input reads as it did. -/
def termsTurnedSpec : ChangeSpec := { name := "termsTurned", fn := fun _ => fun
  | [d1, d2, d3, d4] => { results := [.lit (.bool true)], args := [d1, d2, d3, d4] }
  | _ => none }
def termsTurnedRow : OpenClaim := { program := "ytdjfpbjlmojikaa", sum := "ad679c229c176d8d9e56671698df32833fe2331fb56f32d467b94e26a112012f", func := "lombard/lombardlaw06.TermsTurned", spec := "termsTurned", unfollowed := true, recurses := true, apart := false }
def TermsTurnedSaid : Prop := termsTurnedRow.holds Try.pinned (OpenSpec.ofChange termsTurnedSpec)

/-- ITS FALSE NEIGHBOUR: 'it returns false'. Refute it at one input. -/
def termsTurnedWrong : ChangeSpec := { name := "termsTurned", fn := fun _ => fun
  | [d1, d2, d3, d4] => { results := [.lit (.bool false)], args := [d1, d2, d3, d4] }
  | _ => none }
def TermsTurnedWrongFalsely : Prop := termsTurnedRow.holds Try.pinned (OpenSpec.ofChange termsTurnedWrong)

/- THE SECOND FORM. 'bulk': how many values and letters a reading holds, each counted each time it is reached (what is shared counts as often as it is met; a slice's spare places count too). A statement '..UptoSaid' is the law's where the arguments, and the package variables that the reading takes, are together of bulk at most 1048576: NARROWER than '..Said'. Prove '..Said' where nothing that the law and all that it calls make is longer than what came in: it says more and counts as full. Else prove '..UptoSaid'. A law counts once. -/
mutual
def uptoBulk {H : Type} : DataW H → Nat
  | .lit (.string bytes) => bytes.length + 1
  | .lit _ => 1
  | .nil => 1
  | .ptr d => uptoBulk d + 1
  | .slice elems spare => uptoBulkAll elems + uptoBulkAll spare + 1
  | .agg parts => uptoBulkAll parts + 1
  | .iface _ d => uptoBulk d + 1
  | .map entries => uptoBulkEntries entries + 1
  | .held _ => 1
def uptoBulkAll {H : Type} : List (DataW H) → Nat
  | [] => 0
  | d :: r => uptoBulk d + uptoBulkAll r
def uptoBulkEntries {H : Type} : List (Lit × DataW H) → Nat
  | [] => 0
  | x :: r => uptoBulkEntry x + uptoBulkEntries r
def uptoBulkEntry {H : Type} : Lit × DataW H → Nat
  | (.string bytes, d) => bytes.length + uptoBulk d + 1
  | (_, d) => uptoBulk d + 1
 end
def uptoSmall : (H : Type) → List (DataW H) → Bool := fun _ ds => decide (uptoBulkAll ds ≤ 1048576)
def OpenSpec.upto (s : _root_.Go.ChangeSpec) : _root_.Go.OpenSpec := { _root_.Go.OpenSpec.ofChange s with cond := some uptoSmall }

/-- 'lombardlaw06.TermsBounds', WHERE WHAT IT READS IS OF BULK AT MOST 1048576: true; the input reads as it did. -/
def termsBoundsUptoRow : OpenClaim := { program := "ytdjfpbjlmojikaa", sum := "ad679c229c176d8d9e56671698df32833fe2331fb56f32d467b94e26a112012f", func := "lombard/lombardlaw06.TermsBounds", spec := "termsBounds", apart := false, narrowed := true }
def TermsBoundsUptoSaid : Prop := termsBoundsUptoRow.holds Try.pinned (OpenSpec.upto termsBoundsSpec)

/-- 'lombardlaw07.EventKinds', WHERE WHAT IT READS IS OF BULK AT MOST 1048576: true; the input reads as it did. -/
def eventKindsUptoRow : OpenClaim := { program := "ytdjfpbjlmojikaa", sum := "ad679c229c176d8d9e56671698df32833fe2331fb56f32d467b94e26a112012f", func := "lombard/lombardlaw07.EventKinds", spec := "eventKinds", apart := false, narrowed := true }
def EventKindsUptoSaid : Prop := eventKindsUptoRow.holds Try.pinned (OpenSpec.upto eventKindsSpec)

/-- 'lombardlaw07.EventDays', WHERE WHAT IT READS IS OF BULK AT MOST 1048576: true; the input reads as it did. -/
def eventDaysUptoRow : OpenClaim := { program := "ytdjfpbjlmojikaa", sum := "ad679c229c176d8d9e56671698df32833fe2331fb56f32d467b94e26a112012f", func := "lombard/lombardlaw07.EventDays", spec := "eventDays", apart := false, narrowed := true }
def EventDaysUptoSaid : Prop := eventDaysUptoRow.holds Try.pinned (OpenSpec.upto eventDaysSpec)

/-- 'lombardlaw07.EventTells', WHERE WHAT IT READS IS OF BULK AT MOST 1048576: true; the input reads as it did. -/
def eventTellsUptoRow : OpenClaim := { program := "ytdjfpbjlmojikaa", sum := "ad679c229c176d8d9e56671698df32833fe2331fb56f32d467b94e26a112012f", func := "lombard/lombardlaw07.EventTells", spec := "eventTells", unfollowed := true, recurses := true, apart := false, narrowed := true }
def EventTellsUptoSaid : Prop := eventTellsUptoRow.holds Try.pinned (OpenSpec.upto eventTellsSpec)

/-- 'lombardlaw07.EventBack', WHERE WHAT IT READS IS OF BULK AT MOST 1048576: true; the input reads as it did. -/
def eventBackUptoRow : OpenClaim := { program := "ytdjfpbjlmojikaa", sum := "ad679c229c176d8d9e56671698df32833fe2331fb56f32d467b94e26a112012f", func := "lombard/lombardlaw07.EventBack", spec := "eventBack", apart := false, narrowed := true }
def EventBackUptoSaid : Prop := eventBackUptoRow.holds Try.pinned (OpenSpec.upto eventBackSpec)

/-- 'lombardlaw06.TermsPack', WHERE WHAT IT READS IS OF BULK AT MOST 1048576: true; the input reads as it did. -/
def termsPackUptoRow : OpenClaim := { program := "ytdjfpbjlmojikaa", sum := "ad679c229c176d8d9e56671698df32833fe2331fb56f32d467b94e26a112012f", func := "lombard/lombardlaw06.TermsPack", spec := "termsPack", unfollowed := true, recurses := true, apart := false, narrowed := true }
def TermsPackUptoSaid : Prop := termsPackUptoRow.holds Try.pinned (OpenSpec.upto termsPackSpec)

/-- 'lombardlaw06.TermsBack', WHERE WHAT IT READS IS OF BULK AT MOST 1048576: true; the input reads as it did. -/
def termsBackUptoRow : OpenClaim := { program := "ytdjfpbjlmojikaa", sum := "ad679c229c176d8d9e56671698df32833fe2331fb56f32d467b94e26a112012f", func := "lombard/lombardlaw06.TermsBack", spec := "termsBack", unfollowed := true, recurses := true, apart := false, narrowed := true }
def TermsBackUptoSaid : Prop := termsBackUptoRow.holds Try.pinned (OpenSpec.upto termsBackSpec)

/-- 'lombardlaw06.TermsTurned', WHERE WHAT IT READS IS OF BULK AT MOST 1048576: true; the input reads as it did. -/
def termsTurnedUptoRow : OpenClaim := { program := "ytdjfpbjlmojikaa", sum := "ad679c229c176d8d9e56671698df32833fe2331fb56f32d467b94e26a112012f", func := "lombard/lombardlaw06.TermsTurned", spec := "termsTurned", unfollowed := true, recurses := true, apart := false, narrowed := true }
def TermsTurnedUptoSaid : Prop := termsTurnedUptoRow.holds Try.pinned (OpenSpec.upto termsTurnedSpec)

end Rows
end Go.Proofs.Ytdjfpbjlmojikaa
