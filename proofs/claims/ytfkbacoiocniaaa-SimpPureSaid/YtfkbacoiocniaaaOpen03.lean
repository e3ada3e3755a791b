import Derived.Test.YtfkbacoiocniaaaClose
import Derived.Test.YtfkbacoiocniaaaLaw03
namespace Go.Proofs.Ytfkbacoiocniaaa
open Go.Mw Go.ChangeShapes Go.WideShapes Go.ChangeAt Go.RowKit Go.Deep Go.Joins
set_option linter.unusedVariables false
set_option maxRecDepth 100000
variable {H : Type} {enc : TypeId × Value → H}
theorem dec_i {W : World} {base : Nat} {spare : Nat → Bool} {held : Bool} (n : Nat) (cs : List Value) (y : DataW H × List MemPlace) (h : DataW.trod enc Try.prog W base spare held n 3 cs = some y)
    (hl : cs.length = 1) : ∃ z : Int, cs = [vi z] ∧ I64 z := by
  obtain ⟨a0, h0, g0⟩ := dec_int Try.underlying3 h
  exact ⟨a0, h0, wf_i64 g0⟩
theorem dec_b {W : World} {base : Nat} {spare : Nat → Bool} {held : Bool} (n : Nat) (cs : List Value) (y : DataW H × List MemPlace) (h : DataW.trod enc Try.prog W base spare held n 4 cs = some y)
    (hl : cs.length = 1) : ∃ z : Bool, cs = [vb z] ∧ True := by
  obtain ⟨b, h1, _⟩ := DataW.trod_bool Try.underlying4 h
  exact ⟨b, h1, trivial⟩
theorem arg_ints {b0 : Nat} {W : World} {v0 : Value} {d0 : DataW H} {p0 : List MemPlace} (w0 : Value.okWide Try.prog W .any b0 22 v0) (h0 : DataW.Trod enc Try.prog W 0 (fun _ => true) true 22 v0 d0 p0) :
    ∃ xs : List Int, LV vi W (· < W.heap.size) v0 xs ∧ ∀ x ∈ xs, I64 x := by
  obtain ⟨A, c, xs, rfl, hr, hx, hc, _, _⟩ := arg_list Try.underlying22 (by kernel_rfl) (by decide) w0 h0 (fun z => [vi z]) I64 dec_i
  rw [flat1] at hr
  exact ⟨xs, ⟨A, c, rfl, hr, hc⟩, fun x h => (hx x h).1⟩
theorem arg_bools {b0 : Nat} {W : World} {v0 : Value} {d0 : DataW H} {p0 : List MemPlace} (w0 : Value.okWide Try.prog W .any b0 31 v0) (h0 : DataW.Trod enc Try.prog W 0 (fun _ => true) true 31 v0 d0 p0) :
    ∃ xs : List Bool, LV vb W (· < W.heap.size) v0 xs := by
  obtain ⟨A, c, xs, rfl, hr, hx, hc, _, _⟩ := arg_list Try.underlying31 (by kernel_rfl) (by decide) w0 h0 (fun z => [vb z]) (fun _ => True) dec_b
  rw [flat1] at hr
  exact ⟨xs, A, c, rfl, hr, hc⟩
theorem clauseNormals_law {b0 : Nat} (W : World) {v0 : Value} {d0 : DataW H} {p0 : List MemPlace} (w0 : Value.okWide Try.prog W .any b0 22 v0) (h0 : DataW.Trod enc Try.prog W 0 (fun _ => true) true 22 v0 d0 p0) :
    Ret Try.prog 3 #[v0] W (fun v w' => v = .bool true ∧ Keep W w' No) := by
  obtain ⟨xs, h, hI⟩ := arg_ints w0 h0
  exact clauseNormals_ret h hI
theorem clauseLooks_law {b0 b1 b2 : Nat} (W : World) {v0 v1 v2 : Value} {d0 d1 d2 : DataW H} {p0 p1 p2 : List MemPlace} (w0 : Value.okWide Try.prog W .any b0 22 v0) (h0 : DataW.Trod enc Try.prog W 0 (fun _ => true) true 22 v0 d0 p0)
    (w1 : Value.okWide Try.prog W .any b1 22 v1) (h1 : DataW.Trod enc Try.prog W 0 (fun _ => true) true 22 v1 d1 p1) (w2 : Value.okWide Try.prog W .any b2 31 v2) (h2 : DataW.Trod enc Try.prog W 0 (fun _ => true) true 31 v2 d2 p2) :
    Ret Try.prog 4 #[v0, v1, v2] W (fun v w' => v = .bool true ∧ Keep W w' No) := by
  obtain ⟨xs, h, hI⟩ := arg_ints w0 h0
  obtain ⟨ys, g, hJ⟩ := arg_ints w1 h1
  obtain ⟨m, hm⟩ := arg_bools w2 h2
  exact clauseLooks_ret h g hm hI
theorem clauseResolves_law {b0 b1 b2 : Nat} (W : World) {v0 v1 v2 : Value} {d0 d1 d2 : DataW H} {p0 p1 p2 : List MemPlace} (w0 : Value.okWide Try.prog W .any b0 22 v0) (h0 : DataW.Trod enc Try.prog W 0 (fun _ => true) true 22 v0 d0 p0)
    (w1 : Value.okWide Try.prog W .any b1 22 v1) (h1 : DataW.Trod enc Try.prog W 0 (fun _ => true) true 22 v1 d1 p1) (w2 : Value.okWide Try.prog W .any b2 3 v2) (h2 : DataW.Trod enc Try.prog W 0 (fun _ => true) true 3 v2 d2 p2) :
    Ret Try.prog 5 #[v0, v1, v2] W (fun v w' => v = .bool true ∧ Keep W w' No) := by
  obtain ⟨xs, h, hI⟩ := arg_ints w0 h0
  obtain ⟨ys, g, hJ⟩ := arg_ints w1 h1
  obtain ⟨a2, rfl, _⟩ := arg_int Try.underlying3 w2 h2
  exact clauseResolves_ret h g hI hJ a2
end Go.Proofs.Ytfkbacoiocniaaa
