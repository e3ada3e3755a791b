import Derived.Test.YthkkjjbjpbgcpaaOpenT
import Derived.Test.YthkkjjbjpbgcpaaSmt54l
namespace Go.Proofs.Ythkkjjbjpbgcpaa
open Go.Mw Go.ChangeShapes Go.WideShapes Go.ChangeAt Go.RowKit Go.Deep Go.Joins
set_option linter.unusedVariables false
set_option maxRecDepth 100000
variable {H : Type} {enc : TypeId × Value → H}
theorem smtlibTerms_law {b0 b1 : Nat} (W : World) {v0 v1 : Value} {d0 d1 : DataW H} {p0 p1 : List MemPlace} (w0 : Value.okWide Try.prog W .any b0 22 v0) (h0 : DataW.Trod enc Try.prog W 0 (fun _ => true) true 22 v0 d0 p0)
    (w1 : Value.okWide Try.prog W .any b1 3 v1) (h1 : DataW.Trod enc Try.prog W 0 (fun _ => true) true 3 v1 d1 p1) :
    Ret Try.prog 3 #[v0, v1] W (fun v w' => v = .bool true ∧ Keep W w' No) := by
  obtain ⟨l, h⟩ := arg_deeds w0 h0
  obtain ⟨a2, rfl, _⟩ := arg_int Try.underlying3 w1 h1
  exact smtlibTerms_ret h a2
end Go.Proofs.Ythkkjjbjpbgcpaa
