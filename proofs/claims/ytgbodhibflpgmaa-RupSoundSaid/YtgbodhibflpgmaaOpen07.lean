import Derived.Test.YtgbodhibflpgmaaOpen06
import Derived.Test.YtgbodhibflpgmaaLaw07
namespace Go.Proofs.Ytgbodhibflpgmaa
open Go.Mw Go.ChangeShapes Go.WideShapes Go.ChangeAt Go.RowKit Go.Deep Go.Joins
set_option linter.unusedVariables false
set_option maxRecDepth 100000
variable {H : Type} {enc : TypeId × Value → H}
theorem rupChecks_law {b0 b1 : Nat} (W : World) {v0 v1 : Value} {d0 d1 : DataW H} {p0 p1 : List MemPlace} (w0 : Value.okWide Try.prog W .any b0 67 v0) (h0 : DataW.Trod enc Try.prog W 0 (fun _ => true) true 67 v0 d0 p0)
    (w1 : Value.okWide Try.prog W .any b1 67 v1) (h1 : DataW.Trod enc Try.prog W 0 (fun _ => true) true 67 v1 d1 p1) :
    Ret Try.prog 8 #[v0, v1] W (fun v w' => v = .bool true ∧ Keep W w' No) := by
  obtain ⟨l, h, hI⟩ := arg_lists w0 h0
  obtain ⟨more, h', hI'⟩ := arg_lists w1 h1
  exact rupChecks_ret h h' hI hI'
theorem rupSound_law {b0 b1 b2 : Nat} (W : World) {v0 v1 v2 : Value} {d0 d1 d2 : DataW H} {p0 p1 p2 : List MemPlace} (w0 : Value.okWide Try.prog W .any b0 67 v0) (h0 : DataW.Trod enc Try.prog W 0 (fun _ => true) true 67 v0 d0 p0)
    (w1 : Value.okWide Try.prog W .any b1 67 v1) (h1 : DataW.Trod enc Try.prog W 0 (fun _ => true) true 67 v1 d1 p1) (w2 : Value.okWide Try.prog W .any b2 73 v2) (h2 : DataW.Trod enc Try.prog W 0 (fun _ => true) true 73 v2 d2 p2) :
    Ret Try.prog 9 #[v0, v1, v2] W (fun v w' => v = .bool true ∧ Keep W w' No) := by
  obtain ⟨l, h, hI⟩ := arg_lists w0 h0
  obtain ⟨more, h', hI'⟩ := arg_lists w1 h1
  obtain ⟨m, g⟩ := arg_bools w2 h2
  exact rupSound_ret h h' g hI hI'
end Go.Proofs.Ytgbodhibflpgmaa
