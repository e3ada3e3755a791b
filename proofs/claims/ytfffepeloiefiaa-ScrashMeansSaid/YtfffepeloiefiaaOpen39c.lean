import Derived.Test.YtfffepeloiefiaaOpen39
import Derived.Test.YtfffepeloiefiaaLaw39c
namespace Go.Proofs.Ytfffepeloiefiaa
open Go.Mw Go.ChangeShapes Go.WideShapes Go.ChangeAt Go.RowKit Go.Deep Go.Joins
set_option linter.unusedVariables false
set_option maxRecDepth 100000
variable {H : Type} {enc : TypeId × Value → H}
theorem dec_w {W : World} {base : Nat} {spare : Nat → Bool} {held : Bool} (n : Nat) (cs : List Value) (y : DataW H × List MemPlace) (h : DataW.trod enc Try.prog W base spare held n 30 cs = some y)
    (hl : cs.length = 1) : ∃ z : W64, cs = [vw z] ∧ True := by
  obtain ⟨a0, h0, g0⟩ := dec_int Try.underlying30 h
  have := wf_u64 g0
  refine ⟨BitVec.ofNat 64 a0.toNat, ?_, trivial⟩
  subst h0
  have e : ((BitVec.ofNat 64 a0.toNat).toNat : Int) = a0 := by
    rw [BitVec.toNat_ofNat, Nat.mod_eq_of_lt (by omega)]; omega
  show [Value.int .u64 a0] = [Value.int .u64 ((BitVec.ofNat 64 a0.toNat).toNat : Int)]
  rw [e]
theorem arg_words {b0 : Nat} {W : World} {v0 : Value} {d0 : DataW H} {p0 : List MemPlace} (w0 : Value.okWide Try.prog W .any b0 29 v0) (h0 : DataW.Trod enc Try.prog W 0 (fun _ => true) true 29 v0 d0 p0) :
    ∃ xs : List W64, LV vw W (· < W.heap.size) v0 xs := by
  obtain ⟨A, c, xs, rfl, hr, hx, hc, _, _⟩ := arg_list Try.underlying29 (by kernel_rfl) (by decide) w0 h0 (fun z => [vw z]) (fun _ => True) dec_w
  rw [flat1] at hr
  exact ⟨xs, A, c, rfl, hr, hc⟩
section
variable {W : World} {base : Nat} {spare : Nat → Bool} {held : Bool}
theorem cW : Try.prog.cellsOf 30 = 1 := by kernel_rfl
theorem dec_dd (n : Nat) (cs : List Value) (y : DataW H × List MemPlace) (h : DataW.trod enc Try.prog W base spare held n 69 cs = some y)
    (hl : cs.length = 6) : ∃ z : Nd, cs = z.cells ∧ True := by
  obtain ⟨m, _, hf⟩ := flds Try.underlying69 h
  match cs, hl with
  | [c0, c1, c2, c3, c4, c5], _ =>
    obtain ⟨y0, e0⟩ := hf 0 _ 0 1 3 rfl rfl rfl cI
    obtain ⟨y1, e1⟩ := hf 1 _ 1 1 3 rfl rfl rfl cI
    obtain ⟨y2, e2⟩ := hf 2 _ 2 1 3 rfl rfl rfl cI
    obtain ⟨y3, e3⟩ := hf 3 _ 3 1 3 rfl rfl rfl cI
    obtain ⟨y4, e4⟩ := hf 4 _ 4 1 3 rfl rfl rfl cI
    obtain ⟨y5, e5⟩ := hf 5 _ 5 1 30 rfl rfl rfl cW
    obtain ⟨z0, rfl⟩ := one_int (v := c0) e0
    obtain ⟨z1, rfl⟩ := one_int (v := c1) e1
    obtain ⟨z2, rfl⟩ := one_int (v := c2) e2
    obtain ⟨z3, rfl⟩ := one_int (v := c3) e3
    obtain ⟨z4, rfl⟩ := one_int (v := c4) e4
    obtain ⟨z5, h5, _⟩ := dec_w _ _ _ e5 rfl
    have h5 : [c5] = [vw z5] := h5
    simp only [List.cons.injEq, and_true] at h5
    subst h5
    exact ⟨⟨z0, z1, z2, z3, z4, z5⟩, rfl, trivial⟩
end
theorem arg_deeds {b0 : Nat} {W : World} {v0 : Value} {d0 : DataW H} {p0 : List MemPlace} (w0 : Value.okWide Try.prog W .any b0 42 v0) (h0 : DataW.Trod enc Try.prog W 0 (fun _ => true) true 42 v0 d0 p0) :
    ∃ xs : List Nd, LN Nd.cells W (· < W.heap.size) v0 xs := by
  obtain ⟨A, c, xs, rfl, hr, hx, hc, _, _⟩ := arg_list Try.underlying42 (by kernel_rfl) (by decide) w0 h0 Nd.cells (fun _ => True) dec_dd
  exact ⟨xs, A, c, rfl, hr, hc⟩
theorem scrashMeans_law {b0 b1 b2 : Nat} (W : World) {v0 v1 v2 : Value} {d0 d1 d2 : DataW H} {p0 p1 p2 : List MemPlace} (w0 : Value.okWide Try.prog W .any b0 42 v0) (h0 : DataW.Trod enc Try.prog W 0 (fun _ => true) true 42 v0 d0 p0)
    (w1 : Value.okWide Try.prog W .any b1 25 v1) (h1 : DataW.Trod enc Try.prog W 0 (fun _ => true) true 25 v1 d1 p1) (w2 : Value.okWide Try.prog W .any b2 29 v2) (h2 : DataW.Trod enc Try.prog W 0 (fun _ => true) true 29 v2 d2 p2) :
    Ret Try.prog 4 #[v0, v1, v2] W (fun v w' => v = .bool true ∧ Keep W w' No) := by
  obtain ⟨l, hl⟩ := arg_deeds w0 h0
  obtain ⟨a, b, d, rfl, h3, h4⟩ := arg_sdev w1 h1
  obtain ⟨env, g⟩ := arg_words w2 h2
  exact scrashMeans_ret hl h3 h4 g
end Go.Proofs.Ytfffepeloiefiaa
