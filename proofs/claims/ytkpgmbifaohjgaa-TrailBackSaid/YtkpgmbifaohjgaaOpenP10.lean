import Derived.Test.YtkpgmbifaohjgaaClose
import Derived.Test.YtkpgmbifaohjgaaPlay10
namespace Go.Proofs.Ytkpgmbifaohjgaa
open Go.Mw Go.ChangeShapes Go.WideShapes Go.ChangeAt Go.RowKit Go.Deep Go.Joins
set_option linter.unusedVariables false
set_option maxRecDepth 100000
variable {H : Type} {enc : TypeId × Value → H}
theorem dec_st3 {P : Program} {w : World} {base : Nat} {spare : Nat → Bool} {held : Bool} {t : TypeId} {f0 f1 f2 : Field} {fuel : Nat} {cs : List Value} {y : DataW H × List MemPlace} (hs : P.underlying t = some (.struct #[f0, f1, f2]))
    (hone : oneCellFields P #[f0, f1, f2] = true) (hC : P.cellsOf t = 3) (h : DataW.trod enc P w base spare held fuel t cs = some y) :
    ∃ (v0 v1 v2 : Value) (y0 y1 y2 : DataW H × List MemPlace) (n : Nat), cs = [v0, v1, v2] ∧
      DataW.trod enc P w base spare held n f0.type [v0] = some y0 ∧ DataW.trod enc P w base spare held n f1.type [v1] = some y1 ∧ DataW.trod enc P w base spare held n f2.type [v2] = some y2 := by
  obtain ⟨y0, y1, y2, n, hx, hl, h0, h1, h2⟩ := trod_struct3 hs h
  rw [hC] at hl
  obtain ⟨o0, k0⟩ := hone_of hone 0 f0 rfl
  obtain ⟨o1, k1⟩ := hone_of hone 1 f1 rfl
  obtain ⟨o2, k2⟩ := hone_of hone 2 f2 rfl
  match cs, hl with
  | [c0, c1, c2], _ => exact ⟨c0, c1, c2, y0, y1, y2, n, rfl, by simpa [o0, k0] using h0, by simpa [o1, k1] using h1, by simpa [o2, k2] using h2⟩
theorem dec_deed {W : World} {base : Nat} {spare : Nat → Bool} {held : Bool} (n : Nat) (cs : List Value) (y : DataW H × List MemPlace) (h : DataW.trod enc Try.prog W base spare held n 52 cs = some y)
    (hl : cs.length = 3) : ∃ z : Ent, cs = en z ∧ I64 z.lev := by
  obtain ⟨x0, x1, x2, y0, y1, y2, n, rfl, e0, e1, e2⟩ := dec_st3 Try.underlying52 (by kernel_rfl) (by kernel_rfl) h
  obtain ⟨a0, h0, _⟩ := dec_int Try.underlying3 e0
  obtain ⟨a1, h1, g1⟩ := dec_int Try.underlying3 e1
  obtain ⟨a2, h2, _⟩ := dec_int Try.underlying3 e2
  simp only [List.cons.injEq, and_true] at h0 h1 h2
  subst h0 h1 h2
  exact ⟨⟨a0, a1, a2⟩, rfl, wf_i64 g1⟩
theorem trailPlays_law {b0 b1 b2 : Nat} (W : World) {v0 v1 v2 : Value} {d0 d1 d2 : DataW H} {p0 p1 p2 : List MemPlace} (w0 : Value.okWide Try.prog W .any b0 3 v0) (h0 : DataW.Trod enc Try.prog W 0 (fun _ => true) true 3 v0 d0 p0)
    (w1 : Value.okWide Try.prog W .any b1 42 v1) (h1 : DataW.Trod enc Try.prog W 0 (fun _ => true) true 42 v1 d1 p1)
    (w2 : Value.okWide Try.prog W .any b2 3 v2) (h2 : DataW.Trod enc Try.prog W 0 (fun _ => true) true 3 v2 d2 p2) : Ret Try.prog 4 #[v0, v1, v2] W (fun v w' => v = .bool true ∧ Keep W w' No) := by
  obtain ⟨a0, rfl, g0⟩ := arg_int Try.underlying3 w0 h0
  obtain ⟨a2, rfl, g2⟩ := arg_int Try.underlying3 w2 h2
  obtain ⟨A, c, xs, rfl, hr, hx, _, _, _⟩ := arg_list Try.underlying42 (by kernel_rfl) (by decide) w1 h1 en (fun z => I64 z.lev) dec_deed
  exact trailPlays_ret xs hr (fun e he => (hx e he).1) a0 a2 (wf_i64 g2)
end Go.Proofs.Ytkpgmbifaohjgaa
