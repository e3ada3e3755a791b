import Derived.Test.YtgbodhibflpgmaaClose
import Derived.Test.YtgbodhibflpgmaaLaw36
namespace Go.Proofs.Ytgbodhibflpgmaa
open Go.Mw Go.ChangeShapes Go.WideShapes Go.ChangeAt Go.RowKit Go.Deep Go.Joins
set_option linter.unusedVariables false
set_option maxRecDepth 100000
variable {H : Type} {enc : TypeId × Value → H}
theorem dec_w {W : World} {base : Nat} {spare : Nat → Bool} {held : Bool} (n : Nat) (cs : List Value) (y : DataW H × List MemPlace) (h : DataW.trod enc Try.prog W base spare held n 38 cs = some y)
    (hl : cs.length = 1) : ∃ z : W64, cs = [vw z] ∧ True := by
  obtain ⟨a0, h0, g0⟩ := dec_int Try.underlying38 h
  have := wf_u64 g0
  refine ⟨BitVec.ofNat 64 a0.toNat, ?_, trivial⟩
  subst h0
  have e : ((BitVec.ofNat 64 a0.toNat).toNat : Int) = a0 := by
    rw [BitVec.toNat_ofNat, Nat.mod_eq_of_lt (by omega)]; omega
  show [Value.int .u64 a0] = [Value.int .u64 ((BitVec.ofNat 64 a0.toNat).toNat : Int)]
  rw [e]
theorem arg_words {b0 : Nat} {W : World} {v0 : Value} {d0 : DataW H} {p0 : List MemPlace} (w0 : Value.okWide Try.prog W .any b0 22 v0) (h0 : DataW.Trod enc Try.prog W 0 (fun _ => true) true 22 v0 d0 p0) :
    ∃ xs : List W64, LV vw W (· < W.heap.size) v0 xs := by
  obtain ⟨A, c, xs, rfl, hr, hx, hc, _, _⟩ := arg_list Try.underlying22 (by kernel_rfl) (by decide) w0 h0 (fun z => [vw z]) (fun _ => True) dec_w
  rw [flat1] at hr
  exact ⟨xs, A, c, rfl, hr, hc⟩
theorem symStarts_law {b0 b1 b2 : Nat} (W : World) {v0 v1 v2 : Value} {d0 d1 d2 : DataW H} {p0 p1 p2 : List MemPlace} (w0 : Value.okWide Try.prog W .any b0 22 v0) (h0 : DataW.Trod enc Try.prog W 0 (fun _ => true) true 22 v0 d0 p0)
    (w1 : Value.okWide Try.prog W .any b1 3 v1) (h1 : DataW.Trod enc Try.prog W 0 (fun _ => true) true 3 v1 d1 p1) (w2 : Value.okWide Try.prog W .any b2 22 v2) (h2 : DataW.Trod enc Try.prog W 0 (fun _ => true) true 22 v2 d2 p2) :
    Ret Try.prog 3 #[v0, v1, v2] W (fun v w' => v = .bool true ∧ Keep W w' No) := by
  obtain ⟨xs, h⟩ := arg_words w0 h0
  obtain ⟨a1, rfl, _⟩ := arg_int Try.underlying3 w1 h1
  obtain ⟨env, g⟩ := arg_words w2 h2
  exact symStarts_ret h g
end Go.Proofs.Ytgbodhibflpgmaa
