import Derived.Test.YtnmbgfonlpjicaaOpen12
import Derived.Test.YtnmbgfonlpjicaaAn12k
namespace Go.Proofs.Ytnmbgfonlpjicaa
open Go.Mw Go.ChangeShapes Go.WideShapes Go.ChangeAt Go.RowKit Go.Deep Go.Joins
set_option linter.unusedVariables false
set_option maxRecDepth 100000
variable {H : Type} {enc : TypeId × Value → H}
theorem arg_ints64 {b0 : Nat} {W : World} {v0 : Value} {d0 : DataW H} {p0 : List MemPlace} (w0 : Value.okWide Try.prog W .any b0 25 v0) (h0 : DataW.Trod enc Try.prog W 0 (fun _ => true) true 25 v0 d0 p0) :
    ∃ xs : List Int, LV vi W (· < W.heap.size) v0 xs ∧ ∀ x ∈ xs, I64 x := by
  obtain ⟨A, c, xs, rfl, hr, hx, hc, _, _⟩ := arg_list Try.underlying25 (by kernel_rfl) (by decide) w0 h0 (fun z => [vi z]) (fun z => I64 z) dec_i
  rw [flat1] at hr
  exact ⟨xs, ⟨A, c, rfl, hr, hc⟩, fun x hx' => (hx x hx').1⟩
theorem analyzeLearns_law {b0 b1 b2 : Nat} (W : World) {v0 v1 v2 : Value} {d0 d1 d2 : DataW H} {p0 p1 p2 : List MemPlace} (w0 : Value.okWide Try.prog W .any b0 3 v0) (h0 : DataW.Trod enc Try.prog W 0 (fun _ => true) true 3 v0 d0 p0)
    (w1 : Value.okWide Try.prog W .any b1 22 v1) (h1 : DataW.Trod enc Try.prog W 0 (fun _ => true) true 22 v1 d1 p1)
    (w2 : Value.okWide Try.prog W .any b2 25 v2) (h2 : DataW.Trod enc Try.prog W 0 (fun _ => true) true 25 v2 d2 p2) :
    Ret Try.prog 4 #[v0, v1, v2] W (fun v w' => v = .bool true ∧ Keep W w' No) := by
  obtain ⟨m, rfl, _⟩ := arg_int Try.underlying3 w0 h0
  obtain ⟨l, g1, hI⟩ := arg_lists w1 h1
  obtain ⟨xs, g2, hJ⟩ := arg_ints64 w2 h2
  exact analyzeLearns_ret m g1 hI g2 hJ
end Go.Proofs.Ytnmbgfonlpjicaa
