import Derived.Test.YtgbodhibflpgmaaLaw06b
namespace Go.Proofs.Ytgbodhibflpgmaa
open Go.Mw
set_option linter.unusedVariables false
set_option linter.unusedSimpArgs false
set_option maxRecDepth 100000
attribute [local irreducible] M.val M.unit M.next M.pick M.new M.nilCheck M.load1 M.loadA M.store M.fieldAddr M.indexSl M.indexArr M.slice M.makeSlice M.buildSlice M.len M.lenS M.cap M.append M.extract M.conv M.not M.neg M.bin M.shift M.eqB M.eqNil M.call M.callv M.gd M.share M.cond M.loop M.draw pureW readW Ret
/-! breakwater/breakwaterlaw06.UnitMore: function 7 -/
def sh7 (x0 x1 x2 : Value) (R : Kt) (w : World) : Prop :=
  M.call Try.prog 26 #[x0, (Value.int IntKind.i64 40)] (fun t14 w =>
  M.bin .eql t14 (Value.int IntKind.i64 0) (fun t15 w =>
  M.gd t15 false (fun k w => k x1 w) (fun t17 w =>
  M.gd t15 false (fun k w => M.call Try.prog 26 #[t17, (Value.int IntKind.i64 20)] k w) (fun t18 w =>
  M.gd t15 false (fun k w => M.bin .eql t18 (Value.int IntKind.i64 0) k w) (fun t19 w =>
  M.pick t15 (Value.bool true) t19 (fun t20 w =>
  M.gd t20 false (fun k w => k x2 w) (fun t22 w =>
  M.gd t20 false (fun k w => M.len t22 k w) (fun t23 w =>
  M.gd t20 false (fun k w => M.bin .gtr t23 (Value.int IntKind.i64 60) k w) (fun t24 w =>
  M.pick t20 (Value.bool true) t24 (fun t25 w =>
  M.cond t25
  (M.call Try.prog 27 #[] (fun t26 w =>
  R t26 w) w)
  (M.call Try.prog 28 #[x0, x2] (fun t30 w =>
  M.extract 0 t30 (fun t31 w =>
  M.extract 1 t30 (fun t32 w =>
  M.buildSlice 26 1 #[.slice none 0 0] 0 [] (fun t34 w =>
  M.append 26 1 24 #[.slice none 0 0] t34 x0 (fun t36 w =>
  M.append 26 1 24 #[.slice none 0 0] t36 x1 (fun t38 w =>
  M.call Try.prog 28 #[t38, x2] (fun t40 w =>
  M.extract 0 t40 (fun t41 w =>
  M.extract 1 t40 (fun t42 w =>
  M.call Try.prog 28 #[x0, t31] (fun t46 w =>
  M.extract 0 t46 (fun t47 w =>
  M.extract 1 t46 (fun t48 w =>
  M.not t32 (fun t50 w =>
  M.cond t50
  (M.not t42 (fun t52 w =>
  M.gd t52 true (fun k w => k t31 w) (fun t54 w =>
  M.gd t52 true (fun k w => M.len t54 k w) (fun t55 w =>
  M.gd t52 true (fun k w => M.bin .eql t55 (Value.int IntKind.i64 0) k w) (fun t56 w =>
  M.pick t52 t56 (Value.bool false) (fun t57 w =>
  M.gd t57 true (fun k w => M.call Try.prog 27 #[] k w) (fun t59 w =>
  M.pick t57 t59 (Value.bool false) (fun t60 w =>
  R t60 w) w) w) w) w) w) w) w)
  (M.gd t48 true (fun k w => k t31 w) (fun t63 w =>
  M.gd t48 true (fun k w => k t47 w) (fun t64 w =>
  M.gd t48 true (fun k w => M.call Try.prog 30 #[t63, t64] k w) (fun t65 w =>
  M.pick t48 t65 (Value.bool false) (fun t66 w =>
  M.gd t66 true (fun k w => k t42 w) (fun t68 w =>
  M.gd t66 true (fun k w => M.not t68 k w) (fun t69 w =>
  M.gd t66 true (fun k w => k t69 w) (fun t70 w =>
  M.gd t70 false (fun k w => k t31 w) (fun t71 w =>
  M.gd t70 false (fun k w => k t41 w) (fun t72 w =>
  M.gd t70 false (fun k w => M.call Try.prog 35 #[t71, t72] k w) (fun t73 w =>
  M.gd t66 true (fun k w => M.pick t70 (Value.bool true) t73 k w) (fun t74 w =>
  M.pick t66 t74 (Value.bool false) (fun t75 w =>
  M.gd t75 true (fun k w => M.call Try.prog 27 #[] k w) (fun t77 w =>
  M.pick t75 t77 (Value.bool false) (fun t78 w =>
  R t78 w) w) w) w) w) w) w) w) w) w) w) w) w) w) w)) w) w) w) w) w) w) w) w) w) w) w) w) w)) w) w) w) w) w) w) w) w) w) w
theorem ok7 (x0 x1 x2 : Value) (R : Kt) (w : World) (h : sh7 x0 x1 x2 R w) : Ret Try.prog 7 #[x0, x1, x2] w R :=
  ret_mk <| calls_of_comp mixed (c := Try.f7.body.getD .skip) (args := [x0, x1, x2]) (rs := [(ResultVar.tmp 6)]) (Ann.seq Ann.text (Ann.seq (Ann.seq Ann.text (Ann.cond (Ann.seq Ann.text Ann.leaf) Ann.leaf)) (Ann.seq Ann.text (Ann.seq Ann.text (Ann.seq Ann.text (Ann.seq (Ann.seq Ann.text (Ann.cond (Ann.seq Ann.text Ann.leaf) Ann.leaf)) (Ann.seq Ann.text Ann.leaf)))))))
    Try.func7 (by kernel_rfl) (by kernel_rfl)
    (Eq.mp (by kernel_rfl) h)

theorem LLr.mono {w : World} {D D' : Nat → Prop} {A : Option Addr} {vs : List Value} {l : List (List Int)} (h : LLr w D A vs l) (hd : ∀ b, b < w.heap.size → D b → D' b) : LLr w D' A vs l :=
  ⟨h.row.mono hd, h.len, fun i c hc => by obtain ⟨u, g1, g2⟩ := h.all i c hc; exact ⟨u, g1, g2.mono hd⟩⟩
theorem LLr.one {w : World} {D : Nat → Prop} {A : Option Addr} {vs : List Value} {l : List (List Int)} (h : LLr w D A vs l) : ∀ y ∈ vs, y.oneCell' = true := fun y hy => by
  obtain ⟨i, hi⟩ := List.mem_iff_getElem?.1 hy
  have hlt := (List.getElem?_eq_some_iff.1 hi).1
  rw [h.len] at hlt
  obtain ⟨u, g1, A2, c2, rfl, _⟩ := h.all i _ (List.getElem?_eq_getElem hlt)
  rw [hi] at g1; cases g1; rfl
/-- 'append(append([][]int{}, l...), more...)'. -/
theorem M.both_i {k : Kt} {w : World} {el : Nat} {A B : Option Addr} {ca cb : Nat} {vs us : List Value} {l more : List (List Int)} (h1 : LLr w (· < w.heap.size) A vs l) (h2 : LLr w (· < w.heap.size) B us more) (hf : l.length + more.length ≤ 1000000)
    (hk : ∀ v w', LL w' (fun _ => True) v (l ++ more) → Keep w w' No → k v w') :
    M.buildSlice el 1 #[.slice none 0 0] 0 [] (fun t34 w => M.append el 1 24 #[.slice none 0 0] t34 (.slice A l.length ca) (fun t36 w => M.append el 1 24 #[.slice none 0 0] t36 (.slice B more.length cb) (fun t38 w => k t38 w) w) w) w := by
  refine M.buildSlice_i [] (by kernel_rfl) (fun w1 b1 k1 s1 => ?_)
  have h1a := h1.keep k1 (fun _ _ _ h => h)
  have h2a := h2.keep k1 (fun _ _ _ h => h)
  have g1 : GC w1 (w.heap.size ≤ ·) 1 (.slice (some ⟨w.heap.size, 0, none⟩) 0 0) 0 [] := GC.of_blk b1 (Nat.le_refl _) rfl
  refine M.append_i g1 h1a.row (by rw [h1.len]; simp) h1.one rfl (by omega) (by omega) (fun v2 w2 g2 k2 => ?_)
  have q1 := k1.size; have q2 := k2.size
  have h1b := h1a.keep k2 (fun b hb h h' => by omega)
  have h2b := h2a.keep k2 (fun b hb h h' => by omega)
  have g2 := GC.mono g2 (L' := fun b => w.heap.size ≤ b) (fun b hb h => by omega)
  refine M.append_i g2 h2b.row (by rw [h2.len]; simp) h2.one rfl (by omega) (by omega) (fun v3 w3 g3 k3 => ?_)
  have h1c := h1b.keep k3 (fun b hb h h' => by omega)
  have h2c := h2b.keep k3 (fun b hb h h' => by omega)
  obtain ⟨A3, c3, rfl, r3, hc3⟩ := GC.row2 g3 (by omega)
  have e1 : 0 + l.length + more.length = (l ++ more).length := by simp
  refine hk _ w3 ⟨A3, c3, [] ++ vs ++ us, by rw [e1], ⟨r3.mono (fun _ _ _ => trivial), by simp [h1.len, h2.len], fun i c hc => ?_⟩, by simp at hc3 ⊢; omega⟩ ((k1.trans k2 (fun b hb h => by omega)).trans k3 (fun b hb h => by omega))
  rw [List.nil_append]
  by_cases hi : i < l.length
  · rw [List.getElem?_append_left hi] at hc
    obtain ⟨u, e, g⟩ := h1c.all i c hc
    exact ⟨u, by rw [List.getElem?_append_left (by rw [h1.len]; exact hi)]; exact e, g.mono (fun _ _ _ => trivial)⟩
  · rw [List.getElem?_append_right (by omega)] at hc
    obtain ⟨u, e, g⟩ := h2c.all _ c hc
    exact ⟨u, by rw [List.getElem?_append_right (by rw [h1.len]; omega), h1.len]; exact e, g.mono (fun _ _ _ => trivial)⟩
end Go.Proofs.Ytgbodhibflpgmaa
