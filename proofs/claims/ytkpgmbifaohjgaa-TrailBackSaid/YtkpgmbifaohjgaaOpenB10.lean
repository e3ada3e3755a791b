import Derived.Test.YtkpgmbifaohjgaaOpenP10
import Derived.Test.YtkpgmbifaohjgaaBack10
namespace Go.Proofs.Ytkpgmbifaohjgaa
open Go.Mw Go.ChangeShapes Go.WideShapes Go.ChangeAt Go.RowKit Go.Deep Go.Joins
set_option linter.unusedVariables false
set_option maxRecDepth 100000
variable {H : Type} {enc : TypeId × Value → H}
theorem trailBack_law {b0 b1 b2 : Nat} (W : World) {v0 v1 v2 : Value} {d0 d1 d2 : DataW H} {p0 p1 p2 : List MemPlace} (w0 : Value.okWide Try.prog W .any b0 3 v0) (h0 : DataW.Trod enc Try.prog W 0 (fun _ => true) true 3 v0 d0 p0)
    (w1 : Value.okWide Try.prog W .any b1 42 v1) (h1 : DataW.Trod enc Try.prog W 0 (fun _ => true) true 42 v1 d1 p1)
    (w2 : Value.okWide Try.prog W .any b2 3 v2) (h2 : DataW.Trod enc Try.prog W 0 (fun _ => true) true 3 v2 d2 p2) : Ret Try.prog 5 #[v0, v1, v2] W (fun v w' => v = .bool true ∧ Keep W w' No) := by
  obtain ⟨a0, rfl, g0⟩ := arg_int Try.underlying3 w0 h0
  obtain ⟨a2, rfl, g2⟩ := arg_int Try.underlying3 w2 h2
  obtain ⟨A, c, xs, rfl, hr, hx, _, _, _⟩ := arg_list Try.underlying42 (by kernel_rfl) (by decide) w1 h1 en (fun z => I64 z.lev) dec_deed
  exact trailBack_ret xs hr (fun e he => (hx e he).1) a0 a2 (wf_i64 g2)
end Go.Proofs.Ytkpgmbifaohjgaa
