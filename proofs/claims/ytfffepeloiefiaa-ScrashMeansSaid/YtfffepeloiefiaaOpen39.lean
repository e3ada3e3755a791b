import Derived.Test.YtfffepeloiefiaaClose
import Derived.Test.YtfffepeloiefiaaLaw39b
namespace Go.Proofs.Ytfffepeloiefiaa
open Go.Mw Go.ChangeShapes Go.WideShapes Go.ChangeAt Go.RowKit Go.Deep Go.Joins
set_option linter.unusedVariables false
set_option maxRecDepth 100000
variable {H : Type} {enc : TypeId × Value → H}
section
variable {W : World} {base : Nat} {spare : Nat → Bool} {held : Bool}
theorem flds {t : TypeId} {fs : Array Field} {fuel : Nat} {cs : List Value} {x : DataW H × List MemPlace} (ht : Try.prog.underlying t = some (.struct fs)) (h : DataW.trod enc Try.prog W base spare held fuel t cs = some x) :
    ∃ n, cs.length = Try.prog.cellsOf t ∧ ∀ (i : Nat) (f : Field) (o k : Nat) (u : TypeId), fs[i]? = some f → f.offset = o → f.type = u → Try.prog.cellsOf u = k → ∃ y, DataW.trod enc Try.prog W base spare held n u ((cs.drop o).take k) = some y := by
  obtain ⟨xs, n, _, _, hl, hxl, hf⟩ := DataW.trod_struct ht h
  refine ⟨n, hl, fun i f o k u hi ho hu hk => ?_⟩
  have := hf i f hi
  subst ho hu hk
  rw [this]
  have hlt : i < xs.length := by
    rw [hxl]
    exact (Array.getElem?_eq_some_iff.1 hi).1
  exact ⟨xs[i], List.getElem?_eq_getElem hlt⟩
theorem cI : Try.prog.cellsOf 3 = 1 := by kernel_rfl
theorem cSl : Try.prog.cellsOf 22 = 1 := by kernel_rfl
theorem cSp : Try.prog.cellsOf 23 = 1 := by kernel_rfl
theorem one_int {n : Nat} {v : Value} {y : DataW H × List MemPlace} (h : DataW.trod enc Try.prog W base spare held n 3 [v] = some y) : ∃ z : Int, v = vi z := by
  obtain ⟨a0, h0, _⟩ := dec_int Try.underlying3 h
  simp only [List.cons.injEq, and_true] at h0
  exact ⟨a0, h0⟩
theorem dec_j (n : Nat) (cs : List Value) (y : DataW H × List MemPlace) (h : DataW.trod enc Try.prog W base spare held n 3 cs = some y)
    (hl : cs.length = 1) : ∃ z : Int, cs = [vi z] ∧ True := by
  obtain ⟨a0, h0, _⟩ := dec_int Try.underlying3 h
  exact ⟨a0, h0, trivial⟩
theorem one_i64 {n : Nat} {v : Value} {y : DataW H × List MemPlace} (h : DataW.trod enc Try.prog W base spare held n 3 [v] = some y) : ∃ z : Int, v = vi z ∧ I64 z := by
  obtain ⟨a0, h0, g⟩ := dec_int Try.underlying3 h
  simp only [List.cons.injEq, and_true] at h0
  exact ⟨a0, h0, wf_i64 g⟩
theorem dec_sp (n : Nat) (cs : List Value) (y : DataW H × List MemPlace) (h : DataW.trod enc Try.prog W base spare held n 55 cs = some y)
    (hl : cs.length = 3) : ∃ z : SP, cs = z.cells ∧ I64 z.e := by
  obtain ⟨m, _, hf⟩ := flds Try.underlying55 h
  match cs, hl with
  | [c0, c1, c2], _ =>
    obtain ⟨y0, e0⟩ := hf 0 _ 0 1 3 rfl rfl rfl cI
    obtain ⟨y1, e1⟩ := hf 1 _ 1 1 3 rfl rfl rfl cI
    obtain ⟨y2, e2⟩ := hf 2 _ 2 1 3 rfl rfl rfl cI
    obtain ⟨z0, rfl⟩ := one_int (v := c0) e0
    obtain ⟨z1, rfl⟩ := one_int (v := c1) e1
    obtain ⟨z2, rfl, hI⟩ := one_i64 (v := c2) e2
    exact ⟨⟨z0, z1, z2⟩, rfl, hI⟩
theorem one_ints {n : Nat} {v : Value} {y : DataW H × List MemPlace} (h : DataW.trod enc Try.prog W base spare held n 22 [v] = some y) : ∃ xs : List Int, LV vi W (· < W.heap.size) v xs := by
  obtain ⟨A, c, xs, h1, hr, hx, hc, _, _⟩ := open_list Try.underlying22 (by kernel_rfl) (by decide) h (fun z => [vi z]) (fun _ => True) dec_j
  rw [flat1] at hr
  simp only [List.cons.injEq, and_true] at h1
  exact ⟨xs, A, c, h1, hr, hc⟩
theorem one_sps {n : Nat} {v : Value} {y : DataW H × List MemPlace} (h : DataW.trod enc Try.prog W base spare held n 23 [v] = some y) : ∃ xs : List SP, LN SP.cells W (· < W.heap.size) v xs ∧ ∀ p ∈ xs, I64 p.e := by
  obtain ⟨A, c, xs, h1, hr, hx, hc, _, _⟩ := open_list Try.underlying23 (by kernel_rfl) (by decide) h SP.cells (fun z => I64 z.e) dec_sp
  simp only [List.cons.injEq, and_true] at h1
  exact ⟨xs, ⟨A, c, h1, hr, hc⟩, fun p hp => (hx p hp).1⟩
theorem one_dev {n : Nat} {a b e : Value} {y : DataW H × List MemPlace} (h : DataW.trod enc Try.prog W base spare held n 25 [a, b, e] = some y) : ∃ d : SDv, e = vi d.ep ∧ SDvO W (· < W.heap.size) a b d ∧ ∀ p ∈ d.pend, I64 p.e := by
  obtain ⟨m, _, hf⟩ := flds Try.underlying25 h
  obtain ⟨y0, e0⟩ := hf 0 _ 0 1 22 rfl rfl rfl cSl
  obtain ⟨y1, e1⟩ := hf 1 _ 1 1 23 rfl rfl rfl cSp
  obtain ⟨y2, e2⟩ := hf 2 _ 2 1 3 rfl rfl rfl cI
  obtain ⟨xs, h0⟩ := one_ints (v := a) e0
  obtain ⟨ps, h1, hI⟩ := one_sps (v := b) e1
  obtain ⟨z, rfl⟩ := one_int (v := e) e2
  exact ⟨⟨xs, ps, z⟩, rfl, ⟨h0, h1⟩, hI⟩
end
theorem cDv : Try.prog.cellsOf 25 = 3 := by kernel_rfl
theorem arg_sdev {b1 : Nat} {W : World} {v1 : Value} {d1 : DataW H} {p1 : List MemPlace} (w1 : Value.okWide Try.prog W .any b1 25 v1) (h1 : DataW.Trod enc Try.prog W 0 (fun _ => true) true 25 v1 d1 p1) :
    ∃ (a b : Value) (d : SDv), v1 = .agg ⟨[a, b, vi d.ep]⟩ ∧ SDvO W (· < W.heap.size) a b d ∧ ∀ p ∈ d.pend, I64 p.e := by
  obtain ⟨⟨cs⟩, rfl, hsz⟩ := okWide_struct Try.underlying25 w1
  obtain ⟨fuel, hf⟩ := h1
  have hl : cs.length = 3 := by rw [cDv] at hsz; simpa using hsz
  match cs, hl with
  | [c0, c1, c2], _ =>
    obtain ⟨d, rfl, h2, h3⟩ := one_dev (a := c0) (b := c1) (e := c2) hf
    exact ⟨c0, c1, d, rfl, h2, h3⟩
theorem scrashLooks_law {b0 b1 : Nat} (W : World) {v0 v1 : Value} {d0 d1 : DataW H} {p0 p1 : List MemPlace} (w0 : Value.okWide Try.prog W .any b0 25 v0) (h0 : DataW.Trod enc Try.prog W 0 (fun _ => true) true 25 v0 d0 p0)
    (w1 : Value.okWide Try.prog W .any b1 3 v1) (h1 : DataW.Trod enc Try.prog W 0 (fun _ => true) true 3 v1 d1 p1) :
    Ret Try.prog 3 #[v0, v1] W (fun v w' => v = .bool true ∧ Keep W w' No) := by
  obtain ⟨a, b, d, rfl, h2, h3⟩ := arg_sdev w0 h0
  obtain ⟨m, rfl, _⟩ := arg_int Try.underlying3 w1 h1
  exact scrashLooks_ret h2 h3 m
end Go.Proofs.Ytfffepeloiefiaa
