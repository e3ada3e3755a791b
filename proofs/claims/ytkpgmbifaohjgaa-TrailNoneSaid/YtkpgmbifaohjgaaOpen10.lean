import Derived.Test.YtkpgmbifaohjgaaClose
import Derived.Test.YtkpgmbifaohjgaaLaw10
namespace Go.Proofs.Ytkpgmbifaohjgaa
open Go.Mw Go.ChangeShapes Go.WideShapes Go.ChangeAt Go.RowKit
set_option linter.unusedVariables false
set_option maxRecDepth 100000
variable {H : Type} {enc : TypeId × Value → H}
theorem trailNone_law {b0 : Nat} (W : World) {v0 : Value} {d0 : DataW H} {p0 : List MemPlace} (w0 : Value.okWide Try.prog W .any b0 52 v0)
    (h0 : DataW.Trod enc Try.prog W 0 (fun _ => true) true 52 v0 d0 p0) : Ret Try.prog 6 #[v0] W (fun v w' => v = .bool true ∧ Keep W w' No) := by
  obtain ⟨x0, x1, x2, y0, y1, y2, n, rfl, _, _, e0, e1, e2⟩ := Joins.open_agg3 Try.underlying52 (by kernel_rfl) (by kernel_rfl) w0 h0
  obtain ⟨a0, h1, _⟩ := dec_int Try.underlying3 e0
  obtain ⟨a1, h2, _⟩ := dec_int Try.underlying3 e1
  obtain ⟨a2, h3, _⟩ := dec_int Try.underlying3 e2
  simp only [List.cons.injEq, and_true] at h1 h2 h3
  subst h1 h2 h3
  exact trailNone_ret a0 a1 a2 W
end Go.Proofs.Ytkpgmbifaohjgaa
