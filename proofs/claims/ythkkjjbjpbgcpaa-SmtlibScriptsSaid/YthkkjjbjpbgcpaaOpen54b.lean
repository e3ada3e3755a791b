import Derived.Test.YthkkjjbjpbgcpaaOpenT
import Derived.Test.YthkkjjbjpbgcpaaSmt54m
namespace Go.Proofs.Ythkkjjbjpbgcpaa
open Go.Mw Go.ChangeShapes Go.WideShapes Go.ChangeAt Go.RowKit Go.Deep Go.Joins
set_option linter.unusedVariables false
set_option maxRecDepth 100000
variable {H : Type} {enc : TypeId × Value → H}
theorem smtlibScripts_law {b0 b1 : Nat} (W : World) {v0 v1 : Value} {d0 d1 : DataW H} {p0 p1 : List MemPlace} (w0 : Value.okWide Try.prog W .any b0 22 v0) (h0 : DataW.Trod enc Try.prog W 0 (fun _ => true) true 22 v0 d0 p0)
    (w1 : Value.okWide Try.prog W .any b1 36 v1) (h1 : DataW.Trod enc Try.prog W 0 (fun _ => true) true 36 v1 d1 p1) :
    Ret Try.prog 4 #[v0, v1] W (fun v w' => v = .bool true ∧ Keep W w' No) := by
  obtain ⟨l, h⟩ := arg_deeds w0 h0
  obtain ⟨A, c, xs, rfl, hr, hx, hc, _, _⟩ := arg_list Try.underlying36 (by kernel_rfl) (by decide) w1 h1 (fun z => [vi z]) (fun _ => True) dec_j
  rw [flat1] at hr
  exact smtlibScripts_ret h ⟨A, c, rfl, hr, hc⟩
end Go.Proofs.Ythkkjjbjpbgcpaa
