import Derived.Test.YtnkechekdncnlaaClose
import Derived.Test.YtnkechekdncnlaaW11D
namespace Go.Proofs.Ytnkechekdncnlaa
open Go.Mw Go.ChangeShapes Go.WideShapes Go.ChangeAt Go.RowKit Go.Deep Go.Joins
set_option linter.unusedVariables false
set_option maxRecDepth 100000
variable {H : Type} {enc : TypeId × Value → H}
section
variable {W : World} {base : Nat} {spare : Nat → Bool} {held : Bool}
theorem flds {t : TypeId} {fs : Array Field} {fuel : Nat} {cs : List Value} {x : DataW H × List MemPlace} (ht : Try.prog.underlying t = some (.struct fs)) (h : DataW.trod enc Try.prog W base spare held fuel t cs = some x) :
    ∃ n, cs.length = Try.prog.cellsOf t ∧ ∀ (i : Nat) (f : Field) (o k : Nat) (u : TypeId), fs[i]? = some f → f.offset = o → f.type = u → Try.prog.cellsOf u = k → ∃ y, DataW.trod enc Try.prog W base spare held n u ((cs.drop o).take k) = some y := by
  obtain ⟨xs, n, _, _, hl, hxl, hf⟩ := DataW.trod_struct ht h
  refine ⟨n, hl, fun i f o k u hi ho hu hk => ?_⟩
  have := hf i f hi
  subst ho hu hk
  rw [this]
  have hlt : i < xs.length := by
    rw [hxl]
    exact (Array.getElem?_eq_some_iff.1 hi).1
  exact ⟨xs[i], List.getElem?_eq_getElem hlt⟩
theorem cI : Try.prog.cellsOf 3 = 1 := by kernel_rfl
theorem cSl : Try.prog.cellsOf 22 = 1 := by kernel_rfl
theorem one_int {n : Nat} {v : Value} {y : DataW H × List MemPlace} (h : DataW.trod enc Try.prog W base spare held n 3 [v] = some y) : ∃ z : Int, v = vi z := by
  obtain ⟨a0, h0, _⟩ := dec_int Try.underlying3 h
  simp only [List.cons.injEq, and_true] at h0
  exact ⟨a0, h0⟩
theorem dec_j (n : Nat) (cs : List Value) (y : DataW H × List MemPlace) (h : DataW.trod enc Try.prog W base spare held n 3 cs = some y)
    (hl : cs.length = 1) : ∃ z : Int, cs = [vi z] ∧ I64 z := by
  obtain ⟨a0, h0, g⟩ := dec_int Try.underlying3 h
  exact ⟨a0, h0, wf_i64 g⟩
theorem one_ints {n : Nat} {v : Value} {y : DataW H × List MemPlace} (h : DataW.trod enc Try.prog W base spare held n 22 [v] = some y) : ∃ xs : List Int, LV vi W (· < W.heap.size) v xs ∧ ∀ x ∈ xs, I64 x := by
  obtain ⟨A, c, xs, h1, hr, hx, hc, _, _⟩ := open_list Try.underlying22 (by kernel_rfl) (by decide) h (fun z => [vi z]) (fun z => I64 z) dec_j
  rw [flat1] at hr
  simp only [List.cons.injEq, and_true] at h1
  exact ⟨xs, ⟨A, c, h1, hr, hc⟩, fun x hx' => (hx x hx').1⟩
def GoodD (W : World) (c : Dc) : Prop := ∃ l, LV vi W (· < W.heap.size) c.2.2 l ∧ ∀ x ∈ l, I64 x
theorem dec_deed (n : Nat) (cs : List Value) (y : DataW H × List MemPlace) (h : DataW.trod enc Try.prog W base spare held n 24 cs = some y)
    (hl : cs.length = 3) : ∃ z : Dc, cs = dcl z ∧ GoodD W z := by
  obtain ⟨m, _, hf⟩ := flds Try.underlying24 h
  match cs, hl with
  | [c0, c1, c2], _ =>
    obtain ⟨y0, e0⟩ := hf 0 _ 0 1 3 rfl rfl rfl cI
    obtain ⟨y1, e1⟩ := hf 1 _ 1 1 3 rfl rfl rfl cI
    obtain ⟨y2, e2⟩ := hf 2 _ 2 1 22 rfl rfl rfl cSl
    obtain ⟨z0, rfl⟩ := one_int (v := c0) e0
    obtain ⟨z1, rfl⟩ := one_int (v := c1) e1
    obtain ⟨l, h2, hI⟩ := one_ints (v := c2) e2
    exact ⟨(z0, z1, c2), rfl, l, h2, hI⟩
end
theorem deeds_of {W : World} : ∀ cs : List Dc, (∀ c ∈ cs, GoodD W c) → ∃ ds : List Dd, cs.length = ds.length ∧ (∀ (i : Nat) d, ds[i]? = some d → ∃ u, cs[i]? = some (d.kind, d.n, u) ∧ LV vi W (· < W.heap.size) u d.l) ∧ ∀ d ∈ ds, ∀ y ∈ d.l, I64 y
  | [], _ => ⟨[], rfl, fun i d h => by simp at h, fun d h => by simp at h⟩
  | c :: cs, h => by
    obtain ⟨ds, h1, h2, h3⟩ := deeds_of cs (fun d hd => h d (List.mem_cons_of_mem _ hd))
    obtain ⟨l, g1, g2⟩ := h c List.mem_cons_self
    refine ⟨⟨c.1, c.2.1, l⟩ :: ds, by simp [h1], fun i d hd => ?_, fun d hd => ?_⟩
    · cases i with
      | zero =>
        simp only [List.getElem?_cons_zero, Option.some.injEq] at hd
        subst hd
        exact ⟨c.2.2, rfl, g1⟩
      | succ i => exact h2 i d (by simpa using hd)
    · rcases List.mem_cons.1 hd with rfl | hd
      · exact g2
      · exact h3 d hd
theorem arg_deeds {b1 : Nat} {W : World} {v1 : Value} {d1 : DataW H} {p1 : List MemPlace} (w1 : Value.okWide Try.prog W .any b1 43 v1) (h1 : DataW.Trod enc Try.prog W 0 (fun _ => true) true 43 v1 d1 p1) :
    ∃ ds : List Dd, DL W (· < W.heap.size) v1 ds ∧ ∀ d ∈ ds, ∀ y ∈ d.l, I64 y := by
  obtain ⟨A, c, cs, rfl, hr, hx, hc, _, _⟩ := arg_list Try.underlying43 (by kernel_rfl) (by decide) w1 h1 dcl (GoodD W) dec_deed
  obtain ⟨ds, e, g, hI⟩ := deeds_of cs (fun c hc => (hx c hc).1)
  rw [e]
  exact ⟨ds, ⟨A, c, cs, rfl, ⟨hr, e, g⟩, by omega⟩, hI⟩
theorem watchPlays_law {b0 b1 : Nat} (W : World) {v0 v1 : Value} {d0 d1 : DataW H} {p0 p1 : List MemPlace} (w0 : Value.okWide Try.prog W .any b0 3 v0) (h0 : DataW.Trod enc Try.prog W 0 (fun _ => true) true 3 v0 d0 p0)
    (w1 : Value.okWide Try.prog W .any b1 43 v1) (h1 : DataW.Trod enc Try.prog W 0 (fun _ => true) true 43 v1 d1 p1) :
    Ret Try.prog 4 #[v0, v1] W (fun v w' => v = .bool true ∧ Keep W w' No) := by
  obtain ⟨m, rfl, _⟩ := arg_int Try.underlying3 w0 h0
  obtain ⟨ds, h2, hI⟩ := arg_deeds w1 h1
  exact watchPlays_ret m h2 hI
end Go.Proofs.Ytnkechekdncnlaa
