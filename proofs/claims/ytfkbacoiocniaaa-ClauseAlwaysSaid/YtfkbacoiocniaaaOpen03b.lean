import Derived.Test.YtfkbacoiocniaaaOpen03
import Derived.Test.YtfkbacoiocniaaaLaw03b
namespace Go.Proofs.Ytfkbacoiocniaaa
open Go.Mw Go.ChangeShapes Go.WideShapes Go.ChangeAt Go.RowKit Go.Deep Go.Joins
set_option linter.unusedVariables false
set_option maxRecDepth 100000
variable {H : Type} {enc : TypeId × Value → H}
theorem clauseSound_law {b0 b1 b2 : Nat} (W : World) {v0 v1 v2 : Value} {d0 d1 d2 : DataW H} {p0 p1 p2 : List MemPlace} (w0 : Value.okWide Try.prog W .any b0 22 v0) (h0 : DataW.Trod enc Try.prog W 0 (fun _ => true) true 22 v0 d0 p0)
    (w1 : Value.okWide Try.prog W .any b1 22 v1) (h1 : DataW.Trod enc Try.prog W 0 (fun _ => true) true 22 v1 d1 p1) (w2 : Value.okWide Try.prog W .any b2 31 v2) (h2 : DataW.Trod enc Try.prog W 0 (fun _ => true) true 31 v2 d2 p2) :
    Ret Try.prog 6 #[v0, v1, v2] W (fun v w' => v = .bool true ∧ Keep W w' No) := by
  obtain ⟨xs, h, hI⟩ := arg_ints w0 h0
  obtain ⟨ys, g, hJ⟩ := arg_ints w1 h1
  obtain ⟨m, hm⟩ := arg_bools w2 h2
  exact clauseSound_ret h g hm hI hJ
theorem clauseAlways_law {b0 b1 : Nat} (W : World) {v0 v1 : Value} {d0 d1 : DataW H} {p0 p1 : List MemPlace} (w0 : Value.okWide Try.prog W .any b0 22 v0) (h0 : DataW.Trod enc Try.prog W 0 (fun _ => true) true 22 v0 d0 p0)
    (w1 : Value.okWide Try.prog W .any b1 31 v1) (h1 : DataW.Trod enc Try.prog W 0 (fun _ => true) true 31 v1 d1 p1) :
    Ret Try.prog 7 #[v0, v1] W (fun v w' => v = .bool true ∧ Keep W w' No) := by
  obtain ⟨xs, h, hI⟩ := arg_ints w0 h0
  obtain ⟨m, hm⟩ := arg_bools w1 h1
  exact clauseAlways_ret h hm hI
end Go.Proofs.Ytfkbacoiocniaaa
