import Derived.Test.YtgbodhibflpgmaaOpen36
import Derived.Test.YtgbodhibflpgmaaLaw36b
namespace Go.Proofs.Ytgbodhibflpgmaa
open Go.Mw Go.ChangeShapes Go.WideShapes Go.ChangeAt Go.RowKit Go.Deep Go.Joins
set_option linter.unusedVariables false
set_option maxRecDepth 100000
variable {H : Type} {enc : TypeId × Value → H}
section
variable {W : World} {base : Nat} {spare : Nat → Bool} {held : Bool}
theorem flds {t : TypeId} {fs : Array Field} {fuel : Nat} {cs : List Value} {x : DataW H × List MemPlace} (ht : Try.prog.underlying t = some (.struct fs)) (h : DataW.trod enc Try.prog W base spare held fuel t cs = some x) :
    ∃ n, cs.length = Try.prog.cellsOf t ∧ ∀ (i : Nat) (f : Field) (o k : Nat) (u : TypeId), fs[i]? = some f → f.offset = o → f.type = u → Try.prog.cellsOf u = k → ∃ y, DataW.trod enc Try.prog W base spare held n u ((cs.drop o).take k) = some y := by
  obtain ⟨xs, n, _, _, hl, hxl, hf⟩ := DataW.trod_struct ht h
  refine ⟨n, hl, fun i f o k u hi ho hu hk => ?_⟩
  have := hf i f hi
  subst ho hu hk
  rw [this]
  have hlt : i < xs.length := by
    rw [hxl]
    exact (Array.getElem?_eq_some_iff.1 hi).1
  exact ⟨xs[i], List.getElem?_eq_getElem hlt⟩
theorem cI : Try.prog.cellsOf 3 = 1 := by kernel_rfl
theorem cW : Try.prog.cellsOf 38 = 1 := by kernel_rfl
theorem cSl : Try.prog.cellsOf 26 = 1 := by kernel_rfl
theorem cSp : Try.prog.cellsOf 27 = 1 := by kernel_rfl
theorem cAr : Try.prog.cellsOf 33 = 8 := by kernel_rfl
theorem cDv : Try.prog.cellsOf 29 = 3 := by kernel_rfl
theorem one_int {n : Nat} {v : Value} {y : DataW H × List MemPlace} (h : DataW.trod enc Try.prog W base spare held n 3 [v] = some y) : ∃ z : Int, v = vi z := by
  obtain ⟨a0, h0, _⟩ := dec_int Try.underlying3 h
  simp only [List.cons.injEq, and_true] at h0
  exact ⟨a0, h0⟩
theorem dec_j (n : Nat) (cs : List Value) (y : DataW H × List MemPlace) (h : DataW.trod enc Try.prog W base spare held n 3 cs = some y)
    (hl : cs.length = 1) : ∃ z : Int, cs = [vi z] ∧ True := by
  obtain ⟨a0, h0, _⟩ := dec_int Try.underlying3 h
  exact ⟨a0, h0, trivial⟩
theorem dec_dd (n : Nat) (cs : List Value) (y : DataW H × List MemPlace) (h : DataW.trod enc Try.prog W base spare held n 106 cs = some y)
    (hl : cs.length = 6) : ∃ z : Nd, cs = z.cells ∧ True := by
  obtain ⟨m, _, hf⟩ := flds Try.underlying106 h
  match cs, hl with
  | [c0, c1, c2, c3, c4, c5], _ =>
    obtain ⟨y0, e0⟩ := hf 0 _ 0 1 3 rfl rfl rfl cI
    obtain ⟨y1, e1⟩ := hf 1 _ 1 1 3 rfl rfl rfl cI
    obtain ⟨y2, e2⟩ := hf 2 _ 2 1 3 rfl rfl rfl cI
    obtain ⟨y3, e3⟩ := hf 3 _ 3 1 3 rfl rfl rfl cI
    obtain ⟨y4, e4⟩ := hf 4 _ 4 1 3 rfl rfl rfl cI
    obtain ⟨y5, e5⟩ := hf 5 _ 5 1 38 rfl rfl rfl cW
    obtain ⟨z0, rfl⟩ := one_int (v := c0) e0
    obtain ⟨z1, rfl⟩ := one_int (v := c1) e1
    obtain ⟨z2, rfl⟩ := one_int (v := c2) e2
    obtain ⟨z3, rfl⟩ := one_int (v := c3) e3
    obtain ⟨z4, rfl⟩ := one_int (v := c4) e4
    obtain ⟨z5, h5, _⟩ := dec_w _ _ _ e5 rfl
    have h5 : [c5] = [vw z5] := h5
    simp only [List.cons.injEq, and_true] at h5
    subst h5
    exact ⟨⟨z0, z1, z2, z3, z4, z5⟩, rfl, trivial⟩
theorem dec_sp (n : Nat) (cs : List Value) (y : DataW H × List MemPlace) (h : DataW.trod enc Try.prog W base spare held n 134 cs = some y)
    (hl : cs.length = 3) : ∃ z : SP, cs = z.cells ∧ True := by
  obtain ⟨m, _, hf⟩ := flds Try.underlying134 h
  match cs, hl with
  | [c0, c1, c2], _ =>
    obtain ⟨y0, e0⟩ := hf 0 _ 0 1 3 rfl rfl rfl cI
    obtain ⟨y1, e1⟩ := hf 1 _ 1 1 3 rfl rfl rfl cI
    obtain ⟨y2, e2⟩ := hf 2 _ 2 1 3 rfl rfl rfl cI
    obtain ⟨z0, rfl⟩ := one_int (v := c0) e0
    obtain ⟨z1, rfl⟩ := one_int (v := c1) e1
    obtain ⟨z2, rfl⟩ := one_int (v := c2) e2
    exact ⟨⟨z0, z1, z2⟩, rfl, trivial⟩
theorem one_ints {n : Nat} {v : Value} {y : DataW H × List MemPlace} (h : DataW.trod enc Try.prog W base spare held n 26 [v] = some y) : ∃ xs : List Int, LV vi W (· < W.heap.size) v xs := by
  obtain ⟨A, c, xs, h1, hr, hx, hc, _, _⟩ := open_list Try.underlying26 (by kernel_rfl) (by decide) h (fun z => [vi z]) (fun _ => True) dec_j
  rw [flat1] at hr
  simp only [List.cons.injEq, and_true] at h1
  exact ⟨xs, A, c, h1, hr, hc⟩
theorem one_sps {n : Nat} {v : Value} {y : DataW H × List MemPlace} (h : DataW.trod enc Try.prog W base spare held n 27 [v] = some y) : ∃ xs : List SP, LN SP.cells W (· < W.heap.size) v xs := by
  obtain ⟨A, c, xs, h1, hr, hx, hc, _, _⟩ := open_list Try.underlying27 (by kernel_rfl) (by decide) h SP.cells (fun _ => True) dec_sp
  simp only [List.cons.injEq, and_true] at h1
  exact ⟨xs, A, c, h1, hr, hc⟩
theorem one_dev {n : Nat} {a b e : Value} {y : DataW H × List MemPlace} (h : DataW.trod enc Try.prog W base spare held n 29 [a, b, e] = some y) : ∃ d : SDv, e = vi d.ep ∧ SDvO W (· < W.heap.size) a b d := by
  obtain ⟨m, _, hf⟩ := flds Try.underlying29 h
  obtain ⟨y0, e0⟩ := hf 0 _ 0 1 26 rfl rfl rfl cSl
  obtain ⟨y1, e1⟩ := hf 1 _ 1 1 27 rfl rfl rfl cSp
  obtain ⟨y2, e2⟩ := hf 2 _ 2 1 3 rfl rfl rfl cI
  obtain ⟨xs, h0⟩ := one_ints (v := a) e0
  obtain ⟨ps, h1⟩ := one_sps (v := b) e1
  obtain ⟨z, rfl⟩ := one_int (v := e) e2
  exact ⟨⟨xs, ps, z⟩, rfl, h0, h1⟩
theorem one_arr {n : Nat} {c0 c1 c2 c3 c4 c5 c6 c7 : Value} {y : DataW H × List MemPlace} (h : DataW.trod enc Try.prog W base spare held n 33 [c0, c1, c2, c3, c4, c5, c6, c7] = some y) : ∃ rs : List Int, rs.length = 8 ∧ [c0, c1, c2, c3, c4, c5, c6, c7] = rs.map vi := by
  obtain ⟨xs, m, _, _, _, hxl, hf⟩ := DataW.trod_array Try.underlying33 h
  rw [cI] at hf
  have key : ∀ i, i < 8 → ∃ y, DataW.trod enc Try.prog W base spare held m 3 (([c0, c1, c2, c3, c4, c5, c6, c7].drop (i * 1)).take 1) = some y := fun i hi => by
    rw [hf i hi]
    exact ⟨xs[i]'(by omega), List.getElem?_eq_getElem (by omega)⟩
  obtain ⟨_, e0⟩ := key 0 (by omega)
  obtain ⟨_, e1⟩ := key 1 (by omega)
  obtain ⟨_, e2⟩ := key 2 (by omega)
  obtain ⟨_, e3⟩ := key 3 (by omega)
  obtain ⟨_, e4⟩ := key 4 (by omega)
  obtain ⟨_, e5⟩ := key 5 (by omega)
  obtain ⟨_, e6⟩ := key 6 (by omega)
  obtain ⟨_, e7⟩ := key 7 (by omega)
  obtain ⟨z0, rfl⟩ := one_int (v := c0) e0
  obtain ⟨z1, rfl⟩ := one_int (v := c1) e1
  obtain ⟨z2, rfl⟩ := one_int (v := c2) e2
  obtain ⟨z3, rfl⟩ := one_int (v := c3) e3
  obtain ⟨z4, rfl⟩ := one_int (v := c4) e4
  obtain ⟨z5, rfl⟩ := one_int (v := c5) e5
  obtain ⟨z6, rfl⟩ := one_int (v := c6) e6
  obtain ⟨z7, rfl⟩ := one_int (v := c7) e7
  exact ⟨[z0, z1, z2, z3, z4, z5, z6, z7], rfl, rfl⟩
theorem one_sym {n : Nat} {cs : List Value} {y : DataW H × List MemPlace} (h : DataW.trod enc Try.prog W base spare held n 35 cs = some y) (hl : cs.length = 19) : ∃ s : Sy, SyO W (· < W.heap.size) (.agg ⟨cs⟩) s := by
  obtain ⟨m, _, hf⟩ := flds Try.underlying35 h
  match cs, hl with
  | [c0, c1, c2, c3, c4, c5, c6, c7, c8, c9, c10, c11, c12, c13, c14, c15, c16, c17, c18], _ =>
    obtain ⟨_, e0⟩ := hf 0 _ 0 8 33 rfl rfl rfl cAr
    obtain ⟨_, e1⟩ := hf 1 _ 8 1 26 rfl rfl rfl cSl
    obtain ⟨_, e2⟩ := hf 2 _ 9 1 3 rfl rfl rfl cI
    obtain ⟨_, e3⟩ := hf 3 _ 10 1 3 rfl rfl rfl cI
    obtain ⟨_, e4⟩ := hf 4 _ 11 1 3 rfl rfl rfl cI
    obtain ⟨_, e5⟩ := hf 5 _ 12 1 3 rfl rfl rfl cI
    obtain ⟨_, e6⟩ := hf 6 _ 13 1 3 rfl rfl rfl cI
    obtain ⟨_, e7⟩ := hf 7 _ 14 1 3 rfl rfl rfl cI
    obtain ⟨_, e8⟩ := hf 8 _ 15 3 29 rfl rfl rfl cDv
    obtain ⟨_, e9⟩ := hf 9 _ 18 1 26 rfl rfl rfl cSl
    obtain ⟨rs, hrl, hrs⟩ := one_arr (c0 := c0) (c1 := c1) (c2 := c2) (c3 := c3) (c4 := c4) (c5 := c5) (c6 := c6) (c7 := c7) e0
    obtain ⟨xs, hx⟩ := one_ints (v := c8) e1
    obtain ⟨z2, rfl⟩ := one_int (v := c9) e2
    obtain ⟨z3, rfl⟩ := one_int (v := c10) e3
    obtain ⟨z4, rfl⟩ := one_int (v := c11) e4
    obtain ⟨z5, rfl⟩ := one_int (v := c12) e5
    obtain ⟨z6, rfl⟩ := one_int (v := c13) e6
    obtain ⟨z7, rfl⟩ := one_int (v := c14) e7
    obtain ⟨d, rfl, hdv⟩ := one_dev (a := c15) (b := c16) (e := c17) e8
    obtain ⟨ks, hk⟩ := one_ints (v := c18) e9
    refine ⟨⟨rs, xs, z2, z3, z4, z5, z6, z7, d, ks⟩, hrl, c8, c15, c16, c18, ?_, hx, hdv, hk⟩
    unfold Sy.vals
    simp only
    rw [← hrs]
    rfl
end
theorem symOf_law {b0 b1 b2 : Nat} (W : World) {v0 v1 v2 : Value} {d0 d1 d2 : DataW H} {p0 p1 p2 : List MemPlace} (w0 : Value.okWide Try.prog W .any b0 52 v0) (h0 : DataW.Trod enc Try.prog W 0 (fun _ => true) true 52 v0 d0 p0)
    (w1 : Value.okWide Try.prog W .any b1 35 v1) (h1 : DataW.Trod enc Try.prog W 0 (fun _ => true) true 35 v1 d1 p1) (w2 : Value.okWide Try.prog W .any b2 22 v2) (h2 : DataW.Trod enc Try.prog W 0 (fun _ => true) true 22 v2 d2 p2) :
    Ret Try.prog 4 #[v0, v1, v2] W (fun v w' => v = .bool true ∧ Keep W w' No) := by
  obtain ⟨A, c, xs, rfl, hr, hx, hc, _, _⟩ := arg_list Try.underlying52 (by kernel_rfl) (by decide) w0 h0 Nd.cells (fun _ => True) dec_dd
  obtain ⟨⟨cs⟩, rfl, hsz⟩ := okWide_struct Try.underlying35 w1
  obtain ⟨fuel, hf⟩ := h1
  have hC : Try.prog.cellsOf 35 = 19 := by kernel_rfl
  obtain ⟨s, hs⟩ := one_sym (cs := cs) hf (by rw [hC] at hsz; simpa using hsz)
  obtain ⟨env, g⟩ := arg_words w2 h2
  exact symOf_ret ⟨A, c, rfl, hr, hc⟩ hs g
end Go.Proofs.Ytgbodhibflpgmaa
