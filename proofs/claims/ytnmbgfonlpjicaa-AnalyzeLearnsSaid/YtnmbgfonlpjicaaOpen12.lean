import Derived.Test.YtnmbgfonlpjicaaClose
import Derived.Test.YtnmbgfonlpjicaaAn12f
namespace Go.Proofs.Ytnmbgfonlpjicaa
open Go.Mw Go.ChangeShapes Go.WideShapes Go.ChangeAt Go.RowKit Go.Deep Go.Joins
set_option linter.unusedVariables false
set_option maxRecDepth 100000
variable {H : Type} {enc : TypeId × Value → H}
theorem dec_i {W : World} {base : Nat} {spare : Nat → Bool} {held : Bool} (n : Nat) (cs : List Value) (y : DataW H × List MemPlace) (h : DataW.trod enc Try.prog W base spare held n 3 cs = some y)
    (hl : cs.length = 1) : ∃ z : Int, cs = [vi z] ∧ I64 z := by
  obtain ⟨a0, h0, g0⟩ := dec_int Try.underlying3 h
  exact ⟨a0, h0, wf_i64 g0⟩
/-- A list, with its slice. -/
structure LP where
  v : Value
  xs : List Int
theorem dec_l {W : World} (n : Nat) (cs : List Value) (y : DataW H × List MemPlace) (h : DataW.trod enc Try.prog W 0 (fun _ => true) true n 25 cs = some y)
    (hl : cs.length = 1) : ∃ z : LP, cs = [z.v] ∧ (LV vi W (· < W.heap.size) z.v z.xs ∧ ∀ x ∈ z.xs, I64 x) := by
  obtain ⟨A, c, xs, rfl, hr, hx, hc, _, _⟩ := open_list Try.underlying25 (by kernel_rfl) (by decide) h (fun z => [vi z]) I64 dec_i
  rw [flat1] at hr
  exact ⟨⟨_, xs⟩, rfl, ⟨A, c, rfl, hr, hc⟩, fun x h => (hx x h).1⟩
theorem arg_lists {b0 : Nat} {W : World} {v0 : Value} {d0 : DataW H} {p0 : List MemPlace} (w0 : Value.okWide Try.prog W .any b0 22 v0) (h0 : DataW.Trod enc Try.prog W 0 (fun _ => true) true 22 v0 d0 p0) :
    ∃ l : List (List Int), LL W (· < W.heap.size) v0 l ∧ ∀ c ∈ l, ∀ x ∈ c, I64 x := by
  obtain ⟨A, c, zs, rfl, hr, hx, hc, _, _⟩ := arg_list Try.underlying22 (by kernel_rfl) (by decide) w0 h0 (fun z : LP => [z.v]) (fun z => LV vi W (· < W.heap.size) z.v z.xs ∧ ∀ x ∈ z.xs, I64 x) dec_l
  rw [flat1] at hr
  refine ⟨zs.map (·.xs), ⟨A, c, zs.map (·.v), by simp, ⟨hr, by simp, fun i d hd => ?_⟩, by simpa using hc⟩, fun d hd => ?_⟩
  · rw [List.getElem?_map] at hd ⊢
    cases hz : zs[i]? with
    | none => rw [hz] at hd; simp at hd
    | some z =>
      rw [hz] at hd
      simp only [Option.map_some, Option.some.injEq] at hd
      subst hd
      exact ⟨z.v, rfl, (hx z (List.mem_of_getElem? hz)).1.1⟩
  · obtain ⟨z, hz, rfl⟩ := List.mem_map.1 hd
    exact (hx z hz).1.2
theorem analyzeNone_law {b0 b1 : Nat} (W : World) {v0 v1 : Value} {d0 d1 : DataW H} {p0 p1 : List MemPlace} (w0 : Value.okWide Try.prog W .any b0 22 v0) (h0 : DataW.Trod enc Try.prog W 0 (fun _ => true) true 22 v0 d0 p0)
    (w1 : Value.okWide Try.prog W .any b1 3 v1) (h1 : DataW.Trod enc Try.prog W 0 (fun _ => true) true 3 v1 d1 p1) :
    Ret Try.prog 3 #[v0, v1] W (fun v w' => v = .bool true ∧ Keep W w' No) := by
  obtain ⟨l, h, hI⟩ := arg_lists w0 h0
  obtain ⟨m, rfl, _⟩ := arg_int Try.underlying3 w1 h1
  exact analyzeNone_ret h m
end Go.Proofs.Ytnmbgfonlpjicaa
