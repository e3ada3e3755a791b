import Derived.Test.YtnkechekdncnlaaLLw
import Derived.Test.YtnkechekdncnlaaW11y
namespace Go.Proofs.Ytnkechekdncnlaa
open Go.Mw
set_option linter.unusedVariables false
set_option linter.unusedSimpArgs false
set_option maxRecDepth 100000
attribute [local irreducible] M.val M.unit M.next M.pick M.new M.nilCheck M.load1 M.loadA M.store M.fieldAddr M.indexSl M.indexArr M.slice M.makeSlice M.buildSlice M.len M.lenS M.cap M.append M.extract M.conv M.not M.neg M.bin M.shift M.eqB M.eqNil M.call M.callv M.gd M.share M.cond M.loop M.draw pureW readW Ret
structure OL (w0 w : World) (v : Value) (us : List Value) (l : List (List Int)) : Prop where
  gc : GC w (w0.heap.size ≤ ·) 1 v us.length us
  len : us.length = l.length
  all : ∀ (i : Nat) c, l[i]? = some c → ∃ u, us[i]? = some u ∧ LV vi w (fun b => ¬ blkOf v b) u c
theorem OL.keep {w0 w w' : World} {v : Value} {us : List Value} {l : List (List Int)} (h : OL w0 w v us l) (k : Keep w w' No) : OL w0 w' v us l :=
  ⟨h.gc.keep k (fun _ _ _ h => h), h.len, fun i c hc => by obtain ⟨u, h1, h2⟩ := h.all i c hc; exact ⟨u, h1, h2.keep k (fun _ _ _ h => h)⟩⟩
theorem OL.ll {w0 w : World} {v : Value} {us : List Value} {l : List (List Int)} (h : OL w0 w v us l) : LL w (fun _ => True) v l := by
  obtain ⟨A, c, rfl, hr, hc⟩ := GC.row2 h.gc (by omega)
  rw [h.len] at hc ⊢
  exact ⟨A, c, us, rfl, ⟨hr.mono (fun _ _ _ => trivial), h.len, fun i c hc => by
    obtain ⟨u, h1, h2⟩ := h.all i c hc; exact ⟨u, h1, h2.mono (fun _ _ _ => trivial)⟩⟩, hc⟩
theorem OL.nil (w0 w : World) : OL w0 w (.slice none 0 0) [] [] := ⟨GC.nil _ _ _, rfl, fun i c h => by simp at h⟩
theorem OL.lt {w0 w : World} {v : Value} {us : List Value} {l : List (List Int)} (h : OL w0 w v us l) {b : Nat} (hb : blkOf v b) : w0.heap.size ≤ b ∧ b < w.heap.size := GC.blkOf h.gc hb
/-- 'append(out, c)'. -/
theorem M.appendOL_i {k : Kt} {w0 w : World} {el : Nat} {v u : Value} {us : List Value} {l : List (List Int)} {c : List Int} (h : OL w0 w v us l) (hu : LV vi w (fun b => ¬ blkOf v b) u c) (hs : w0.heap.size ≤ w.heap.size) (hb : l.length ≤ 1000000)
    (hk : ∀ v' us' w', OL w0 w' v' us' (l ++ [c]) → Keep w w' (w0.heap.size ≤ ·) → k v' w') :
    M.buildSlice el 1 #[.slice none 0 0] 1 [(0, u)] (fun t w => M.append el 1 24 #[.slice none 0 0] v t (fun t' w => k t' w) w) w := by
  obtain ⟨B, nc, rfl, _⟩ := id hu
  refine M.buildSlice_i [.slice B c.length nc] (by kernel_rfl) (fun w1 b1 k1 s1 => ?_)
  have h1 := h.keep k1
  have hu1 := hu.keep k1 (fun _ _ _ h => h)
  have e := h.len
  refine M.append_i (GC.own h1.gc) (Row.of_blk' (D := fun _ => True) b1 trivial) rfl (by simp; rfl) rfl (by omega) (by omega) (fun v2 w2 g2 k2 => ?_)
  have q1 := k1.size
  have hv2 : ∀ b, b < w1.heap.size → ¬ blkOf v b → ¬ blkOf v2 b := fun b hb hn hb2 => by
    rcases (GC.blkOf g2 hb2).1 with h | h
    · exact hn h
    · omega
  have hl : ∀ b, blkOf v b → w0.heap.size ≤ b := fun b hb => (h.lt hb).1
  refine hk _ (us ++ [.slice B c.length nc]) _ ⟨by
    have := g2.mono (L' := (w0.heap.size ≤ ·)) (fun b hb h => by
      rcases h with h | h
      · exact hl b h
      · omega)
    simpa using this, by simp [e], fun i d hd => ?_⟩ ((k1.mono (fun _ _ h => h.elim)).trans k2 (fun b hb h => hl b h))
  by_cases hi : i < l.length
  · rw [List.getElem?_append_left hi] at hd
    obtain ⟨x, g, gx⟩ := h1.all i d hd
    exact ⟨x, by rw [List.getElem?_append_left (by omega)]; exact g, (gx.mono (D' := fun b => b < w1.heap.size ∧ ¬ blkOf v b) (fun b hb h => ⟨hb, h⟩)).keep k2 (fun b hb h1 h2 => h1.2 h2) |>.mono (fun b hb h => hv2 b h.1 h.2)⟩
  · rw [List.getElem?_append_right (by omega)] at hd
    have : i - l.length = 0 := by
      have := (List.getElem?_eq_some_iff.1 hd).1; simp at this; omega
    rw [this] at hd
    simp at hd; subst hd
    exact ⟨_, by rw [List.getElem?_append_right (by omega), e, this]; rfl, (hu1.mono (D' := fun b => b < w1.heap.size ∧ ¬ blkOf v b) (fun b hb h => ⟨hb, h⟩)).keep k2 (fun b hb h1 h2 => h1.2 h2) |>.mono (fun b hb h => hv2 b h.1 h.2)⟩
theorem GI.ofL {w : World} {L : Nat → Prop} {v : Value} {xs : List Int} (h : GI w L v xs) (D : Nat → Prop) (hd : ∀ b, b < w.heap.size → L b → D b) : LV vi w D v xs := h.lv.mono hd
end Go.Proofs.Ytnkechekdncnlaa
