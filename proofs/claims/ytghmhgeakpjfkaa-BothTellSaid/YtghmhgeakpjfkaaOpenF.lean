/- An argument that is a float, opened. -/
import Derived.Test.YtghmhgeakpjfkaaLib
import Derived.OpenShut
import Derived.WideShapes
namespace Go.Proofs.Ytghmhgeakpjfkaa
open Go.RowKit Go.ChangeShapes Go.WideShapes
section
variable {H : Type} {enc : TypeId × Value → H} {P : Program} {w : World} {base : Nat} {spare : Nat → Bool} {held : Bool}
theorem open_f64 {r : Reach} {b0 : Nat} {t : TypeId} {v : Value} {d : DataW H} {ps : List MemPlace} (ht : P.underlying t = some (.float .f64)) (hval : Value.okWide P w r b0 t v) (_hd : DataW.Trod enc P w base spare held t v d ps) :
    ∃ b, v = .float .f64 b := by
  simp only [Value.okWide, ht, Cell.okWide] at hval
  cases v <;> simp_all [Cell.ok]
end
end Go.Proofs.Ytghmhgeakpjfkaa
