import Derived.Test.YtanjlgafjgoaaaaClose
import Derived.Test.YtanjlgafjgoaaaaSt37o
namespace Go.Proofs.Ytanjlgafjgoaaaa
open Go.Mw Go.ChangeShapes Go.WideShapes Go.ChangeAt Go.RowKit Go.Deep Go.Joins
set_option linter.unusedVariables false
set_option maxRecDepth 100000
variable {H : Type} {enc : TypeId × Value → H}
theorem dec_w {W : World} {base : Nat} {spare : Nat → Bool} {held : Bool} (n : Nat) (cs : List Value) (y : DataW H × List MemPlace) (h : DataW.trod enc Try.prog W base spare held n 33 cs = some y)
    (hl : cs.length = 1) : ∃ z : W64, cs = [vw z] ∧ True := by
  obtain ⟨a0, h0, g0⟩ := dec_int Try.underlying33 h
  have := wf_u64 g0
  refine ⟨BitVec.ofNat 64 a0.toNat, ?_, trivial⟩
  subst h0
  have e : ((BitVec.ofNat 64 a0.toNat).toNat : Int) = a0 := by
    rw [BitVec.toNat_ofNat, Nat.mod_eq_of_lt (by omega)]; omega
  show [Value.int .u64 a0] = [Value.int .u64 ((BitVec.ofNat 64 a0.toNat).toNat : Int)]
  rw [e]
section
variable {W : World} {base : Nat} {spare : Nat → Bool} {held : Bool}
theorem flds {t : TypeId} {fs : Array Field} {fuel : Nat} {cs : List Value} {x : DataW H × List MemPlace} (ht : Try.prog.underlying t = some (.struct fs)) (h : DataW.trod enc Try.prog W base spare held fuel t cs = some x) :
    ∃ n, cs.length = Try.prog.cellsOf t ∧ ∀ (i : Nat) (f : Field) (o k : Nat) (u : TypeId), fs[i]? = some f → f.offset = o → f.type = u → Try.prog.cellsOf u = k → ∃ y, DataW.trod enc Try.prog W base spare held n u ((cs.drop o).take k) = some y := by
  obtain ⟨xs, n, _, _, hl, hxl, hf⟩ := DataW.trod_struct ht h
  refine ⟨n, hl, fun i f o k u hi ho hu hk => ?_⟩
  have := hf i f hi
  subst ho hu hk
  rw [this]
  have hlt : i < xs.length := by
    rw [hxl]
    exact (Array.getElem?_eq_some_iff.1 hi).1
  exact ⟨xs[i], List.getElem?_eq_getElem hlt⟩
theorem cI : Try.prog.cellsOf 3 = 1 := by kernel_rfl
theorem cW : Try.prog.cellsOf 33 = 1 := by kernel_rfl
theorem cSw : Try.prog.cellsOf 23 = 1 := by kernel_rfl
theorem cSi : Try.prog.cellsOf 22 = 1 := by kernel_rfl
theorem one_int {n : Nat} {v : Value} {y : DataW H × List MemPlace} (h : DataW.trod enc Try.prog W base spare held n 3 [v] = some y) : ∃ z : Int, v = vi z := by
  obtain ⟨a0, h0, _⟩ := dec_int Try.underlying3 h
  simp only [List.cons.injEq, and_true] at h0
  exact ⟨a0, h0⟩
theorem dec_in (n : Nat) (cs : List Value) (y : DataW H × List MemPlace) (h : DataW.trod enc Try.prog W base spare held n 51 cs = some y)
    (hl : cs.length = 5) : ∃ z : Ins, cs = z.cells ∧ True := by
  obtain ⟨m, _, hf⟩ := flds Try.underlying51 h
  match cs, hl with
  | [c0, c1, c2, c3, c5], _ =>
    obtain ⟨y0, e0⟩ := hf 0 _ 0 1 3 rfl rfl rfl cI
    obtain ⟨y1, e1⟩ := hf 1 _ 1 1 3 rfl rfl rfl cI
    obtain ⟨y2, e2⟩ := hf 2 _ 2 1 3 rfl rfl rfl cI
    obtain ⟨y3, e3⟩ := hf 3 _ 3 1 3 rfl rfl rfl cI
    obtain ⟨y5, e5⟩ := hf 4 _ 4 1 33 rfl rfl rfl cW
    obtain ⟨z0, rfl⟩ := one_int (v := c0) e0
    obtain ⟨z1, rfl⟩ := one_int (v := c1) e1
    obtain ⟨z2, rfl⟩ := one_int (v := c2) e2
    obtain ⟨z3, rfl⟩ := one_int (v := c3) e3
    obtain ⟨z5, h5, _⟩ := dec_w _ _ _ e5 rfl
    have h5 : [c5] = [vw z5] := h5
    simp only [List.cons.injEq, and_true] at h5
    subst h5
    exact ⟨⟨z0, z1, z2, z3, z5⟩, rfl, trivial⟩
theorem one_code {n : Nat} {v : Value} {y : DataW H × List MemPlace} (h : DataW.trod enc Try.prog W base spare held n 22 [v] = some y) : ∃ A c, ∃ xs : List Ins, v = .slice A xs.length c ∧ Row W (· < W.heap.size) A (xs.flatMap Ins.cells) ∧ xs.length ≤ c := by
  obtain ⟨A, c, xs, h1, hr, hx, hc, _, _⟩ := open_list Try.underlying22 (by kernel_rfl) (by decide) h Ins.cells (fun _ => True) dec_in
  simp only [List.cons.injEq, and_true] at h1
  exact ⟨A, c, xs, h1, hr, hc⟩
theorem one_words {n : Nat} {v : Value} {y : DataW H × List MemPlace} (h : DataW.trod enc Try.prog W base spare held n 23 [v] = some y) : ∃ A c, ∃ xs : List W64, v = .slice A xs.length c ∧ Row W (· < W.heap.size) A (xs.map vw) ∧ xs.length ≤ c := by
  obtain ⟨A, c, xs, h1, hr, hx, hc, _, _⟩ := open_list Try.underlying23 (by kernel_rfl) (by decide) h (fun z => [vw z]) (fun _ => True) dec_w
  rw [flat1] at hr
  simp only [List.cons.injEq, and_true] at h1
  exact ⟨A, c, xs, h1, hr, hc⟩
theorem one_play {n : Nat} {cs : List Value} {y : DataW H × List MemPlace} (h : DataW.trod enc Try.prog W base spare held n 25 cs = some y) (hl : cs.length = 5) : ∃ code blocks, ∃ n0 n1 n2 : Int, PlO W (.agg ⟨cs⟩) code blocks n0 n1 n2 := by
  obtain ⟨m, _, hf⟩ := flds Try.underlying25 h
  match cs, hl with
  | [c0, c1, c2, c3, c4], _ =>
    obtain ⟨_, e0⟩ := hf 0 _ 0 1 22 rfl rfl rfl cSi
    obtain ⟨_, e1⟩ := hf 1 _ 1 1 23 rfl rfl rfl cSw
    obtain ⟨_, e2⟩ := hf 2 _ 2 1 3 rfl rfl rfl cI
    obtain ⟨_, e3⟩ := hf 3 _ 3 1 3 rfl rfl rfl cI
    obtain ⟨_, e4⟩ := hf 4 _ 4 1 3 rfl rfl rfl cI
    obtain ⟨A, c, code, rfl, hA, hc⟩ := one_code (v := c0) e0
    obtain ⟨B, cb, blocks, rfl, hB, hb⟩ := one_words (v := c1) e1
    obtain ⟨z2, rfl⟩ := one_int (v := c2) e2
    obtain ⟨z3, rfl⟩ := one_int (v := c3) e3
    obtain ⟨z4, rfl⟩ := one_int (v := c4) e4
    exact ⟨code, blocks, z2, z3, z4, A, c, B, cb, rfl, hA, hc, hB, hb⟩
end
theorem sstepBad_law {b0 b1 b2 : Nat} (W : World) {v0 v1 v2 : Value} {d0 d1 d2 : DataW H} {p0 p1 p2 : List MemPlace} (w0 : Value.okWide Try.prog W .any b0 25 v0) (h0 : DataW.Trod enc Try.prog W 0 (fun _ => true) true 25 v0 d0 p0)
    (w1 : Value.okWide Try.prog W .any b1 5 v1) (h1 : DataW.Trod enc Try.prog W 0 (fun _ => true) true 5 v1 d1 p1) (w2 : Value.okWide Try.prog W .any b2 3 v2) (h2 : DataW.Trod enc Try.prog W 0 (fun _ => true) true 3 v2 d2 p2) :
    Ret Try.prog 3 #[v0, v1, v2] W (fun v w' => v = .bool true ∧ Keep W w' No) := by
  obtain ⟨⟨cs⟩, rfl, hsz⟩ := okWide_struct Try.underlying25 w0
  obtain ⟨fuel, hf⟩ := h0
  have hC : Try.prog.cellsOf 25 = 5 := by kernel_rfl
  obtain ⟨code, blocks, n0, n1, n2, hp⟩ := one_play (cs := cs) hf (by rw [hC] at hsz; simpa using hsz)
  obtain ⟨a1, rfl, g1⟩ := arg_int Try.underlying5 w1 h1
  obtain ⟨a2, rfl, _⟩ := arg_int Try.underlying3 w2 h2
  have : 0 ≤ a1 := by
    simp [Lit.wf, IntKind.min, IntKind.max, IntKind.signed, IntKind.bits] at g1
    omega
  obtain ⟨m, rfl⟩ := Int.eq_ofNat_of_zero_le this
  exact sstepBad_ret (at_ := m) hp
end Go.Proofs.Ytanjlgafjgoaaaa
