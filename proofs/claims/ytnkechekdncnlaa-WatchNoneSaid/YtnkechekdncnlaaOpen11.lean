import Derived.Test.YtnkechekdncnlaaClose
import Derived.Test.YtnkechekdncnlaaW11y
namespace Go.Proofs.Ytnkechekdncnlaa
open Go.Mw Go.ChangeShapes Go.WideShapes Go.ChangeAt Go.RowKit
set_option linter.unusedVariables false
set_option maxRecDepth 100000
variable {H : Type} {enc : TypeId × Value → H}
theorem watchNone_law {b0 : Nat} (W : World) {v0 : Value} {d0 : DataW H} {p0 : List MemPlace} (w0 : Value.okWide Try.prog W .any b0 24 v0)
    (h0 : DataW.Trod enc Try.prog W 0 (fun _ => true) true 24 v0 d0 p0) : Ret Try.prog 3 #[v0] W (fun v w' => v = .bool true ∧ Keep W w' No) := by
  obtain ⟨x0, x1, x2, y0, y1, y2, n, rfl, _, _, e0, e1, e2⟩ := Joins.open_agg3 Try.underlying24 (by kernel_rfl) (by kernel_rfl) w0 h0
  obtain ⟨a0, h1, _⟩ := dec_int Try.underlying3 e0
  obtain ⟨a1, h2, _⟩ := dec_int Try.underlying3 e1
  obtain ⟨A, c, xs, h3, hr, hx, hc, _, _⟩ := open_list (sz := 1) Try.underlying22 (by kernel_rfl) (by decide) e2 (fun z => [vi z]) (fun _ => True) (fun n cs y h hl => by
    obtain ⟨a0, h0, _⟩ := dec_int Try.underlying3 h
    exact ⟨a0, h0, trivial⟩)
  simp only [List.cons.injEq, and_true] at h1 h2 h3
  subst h1 h2 h3
  exact watchNone_of (D := No) rfl awake11_ret
end Go.Proofs.Ytnkechekdncnlaa
