import Derived.Test.YthcfmfkigioaeaaClose
import Derived.Test.YthcfmfkigioaeaaLaw13b
namespace Go.Proofs.Ythcfmfkigioaeaa
open Go.Mw Go.ChangeShapes Go.WideShapes Go.ChangeAt Go.RowKit Go.Deep Go.Joins
set_option linter.unusedVariables false
set_option maxRecDepth 100000
variable {H : Type} {enc : TypeId × Value → H}
section
variable {W : World} {base : Nat} {spare : Nat → Bool} {held : Bool}
theorem flds {t : TypeId} {fs : Array Field} {fuel : Nat} {cs : List Value} {x : DataW H × List MemPlace} (ht : Try.prog.underlying t = some (.struct fs)) (h : DataW.trod enc Try.prog W base spare held fuel t cs = some x) :
    ∃ n, cs.length = Try.prog.cellsOf t ∧ ∀ (i : Nat) (f : Field) (o k : Nat) (u : TypeId), fs[i]? = some f → f.offset = o → f.type = u → Try.prog.cellsOf u = k → ∃ y, DataW.trod enc Try.prog W base spare held n u ((cs.drop o).take k) = some y := by
  obtain ⟨xs, n, _, _, hl, hxl, hf⟩ := DataW.trod_struct ht h
  refine ⟨n, hl, fun i f o k u hi ho hu hk => ?_⟩
  have := hf i f hi
  subst ho hu hk
  rw [this]
  have hlt : i < xs.length := by
    rw [hxl]
    exact (Array.getElem?_eq_some_iff.1 hi).1
  exact ⟨xs[i], List.getElem?_eq_getElem hlt⟩
theorem cI : Try.prog.cellsOf 3 = 1 := by kernel_rfl
theorem one_int {n : Nat} {v : Value} {y : DataW H × List MemPlace} (h : DataW.trod enc Try.prog W base spare held n 3 [v] = some y) : ∃ z : Int, v = vi z := by
  obtain ⟨a0, h0, _⟩ := dec_int Try.underlying3 h
  simp only [List.cons.injEq, and_true] at h0
  exact ⟨a0, h0⟩
theorem dec_lr (n : Nat) (cs : List Value) (y : DataW H × List MemPlace) (h : DataW.trod enc Try.prog W base spare held n 26 cs = some y)
    (hl : cs.length = 3) : ∃ z : Lr, cs = z.cells ∧ True := by
  obtain ⟨m, _, hf⟩ := flds Try.underlying26 h
  match cs, hl with
  | [c0, c1, c2], _ =>
    obtain ⟨y0, e0⟩ := hf 0 _ 0 1 3 rfl rfl rfl cI
    obtain ⟨y1, e1⟩ := hf 1 _ 1 1 3 rfl rfl rfl cI
    obtain ⟨y2, e2⟩ := hf 2 _ 2 1 3 rfl rfl rfl cI
    obtain ⟨z0, rfl⟩ := one_int (v := c0) e0
    obtain ⟨z1, rfl⟩ := one_int (v := c1) e1
    obtain ⟨z2, rfl⟩ := one_int (v := c2) e2
    exact ⟨⟨z0, z1, z2⟩, rfl, trivial⟩
end
theorem arg_lrs {b0 : Nat} {W : World} {v0 : Value} {d0 : DataW H} {p0 : List MemPlace} (w0 : Value.okWide Try.prog W .any b0 22 v0) (h0 : DataW.Trod enc Try.prog W 0 (fun _ => true) true 22 v0 d0 p0) :
    ∃ xs : List Lr, LN Lr.cells W (· < W.heap.size) v0 xs := by
  obtain ⟨A, c, xs, rfl, hr, hx, hc, _, _⟩ := arg_list Try.underlying22 (by kernel_rfl) (by decide) w0 h0 Lr.cells (fun _ => True) dec_lr
  exact ⟨xs, A, c, rfl, hr, hc⟩
theorem reduceKeeps_law {b0 : Nat} (W : World) {v0 : Value} {d0 : DataW H} {p0 : List MemPlace} (w0 : Value.okWide Try.prog W .any b0 22 v0) (h0 : DataW.Trod enc Try.prog W 0 (fun _ => true) true 22 v0 d0 p0) :
    Ret Try.prog 3 #[v0] W (fun v w' => v = .bool true ∧ Keep W w' No) := by
  obtain ⟨l, h⟩ := arg_lrs w0 h0
  exact reduceKeeps_ret h
theorem reduceHalf_law {b0 : Nat} (W : World) {v0 : Value} {d0 : DataW H} {p0 : List MemPlace} (w0 : Value.okWide Try.prog W .any b0 22 v0) (h0 : DataW.Trod enc Try.prog W 0 (fun _ => true) true 22 v0 d0 p0) :
    Ret Try.prog 4 #[v0] W (fun v w' => v = .bool true ∧ Keep W w' No) := by
  obtain ⟨l, h⟩ := arg_lrs w0 h0
  exact reduceHalf_ret h
end Go.Proofs.Ythcfmfkigioaeaa
