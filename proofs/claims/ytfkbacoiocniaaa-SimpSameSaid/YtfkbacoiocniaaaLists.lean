import Derived.Test.YtfkbacoiocniaaaFew04
import Derived.Test.YtfkbacoiocniaaaUnit06Q
import Derived.Test.YtfkbacoiocniaaaSlices
import Derived.Test.YtfkbacoiocniaaaLaw03b
namespace Go.Proofs.Ytfkbacoiocniaaa
open Go.Mw
set_option linter.unusedVariables false
set_option linter.unusedSimpArgs false
set_option maxRecDepth 100000
attribute [local irreducible] M.val M.unit M.next M.pick M.new M.nilCheck M.load1 M.loadA M.store M.fieldAddr M.indexSl M.indexArr M.slice M.makeSlice M.buildSlice M.len M.lenS M.cap M.append M.extract M.conv M.not M.neg M.bin M.shift M.eqB M.eqNil M.call M.callv M.gd M.share M.cond M.loop M.draw pureW readW Ret
instance (l : List (List Int)) (set : List Int) : Decidable (FewL l set) := by unfold FewL; infer_instance
theorem LL.of_blk {w : World} {b n : Nat} {us : List Value} {l : List (List Int)} (h : Blk w b us) (hn : n = l.length) (hu : us.length = l.length) (ha : ∀ (i : Nat) c, l[i]? = some c → ∃ u, us[i]? = some u ∧ LV vi w (fun _ => True) u c) :
    LL w (fun _ => True) (.slice (some ⟨b, 0, none⟩) n n) l := by
  subst hn
  exact ⟨_, _, us, rfl, ⟨Row.of_blk' h trivial, hu, ha⟩, Nat.le_refl _⟩
theorem LL.nil (w : World) : LL w No (.slice none 0 0) [] := ⟨none, 0, [], rfl, ⟨.inl rfl, rfl, fun i c h => by simp at h⟩, Nat.le_refl _⟩
theorem CloseR.lenU {l : List (List Int)} {set out : List Int} {k : Bool} (h : CloseR l set out k) : out.length ≤ (univ l set).length := by
  rcases h with ⟨_, rfl, _⟩ | ⟨_, _, h3, h4⟩
  · simp
  · have sub : ∀ y ∈ out, y ∈ univ l set := fun y hy => fol_univ ((h4 y).1 hy)
    have key : ∀ (a b : List Int), a.Pairwise (· < ·) → b.Pairwise (· < ·) → (∀ y ∈ a, y ∈ b) → a.length ≤ b.length := by
      intro a
      induction a with
      | nil => intro b _ _ _; simp
      | cons x a ih =>
        intro b ha hb hs
        obtain ⟨a1, a2⟩ := List.pairwise_cons.1 ha
        obtain ⟨p, q, rfl⟩ := List.append_of_mem (hs x List.mem_cons_self)
        have hq : q.Pairwise (· < ·) := (List.pairwise_cons.1 (List.pairwise_append.1 hb).2.1).2
        have := ih q a2 hq (fun y hy => by
          have hxy := a1 y hy
          rcases List.mem_append.1 (hs y (List.mem_cons_of_mem _ hy)) with h | h
          · have := (List.pairwise_append.1 hb).2.2 y h x List.mem_cons_self; omega
          · rcases List.mem_cons.1 h with h | h
            · omega
            · exact h)
        simp; omega
    exact key out (univ l set) h3 (srt_lt _) sub
theorem CloseR.len {l : List (List Int)} {set out : List Int} {k : Bool} (h : CloseR l set out k) (hf : FewL l set) : out.length ≤ 100000000 := Nat.le_trans h.lenU (univ_few hf)
theorem i64_smalls {l : List (List Int)} (h : l.all (fun c => c.all (fun x => decide (-1000 ≤ x ∧ x ≤ 1000))) = true) : ∀ c ∈ l, ∀ x ∈ c, I64 x := fun c hc => i64_small (List.all_eq_true.1 h c hc)
theorem two_at {w : World} {D : Nat → Prop} {u v : Value} {c d : List Int} (h1 : LV vi w D u c) (h2 : LV vi w D v d) : ∀ (i : Nat) e, [c, d][i]? = some e → ∃ x, [u, v][i]? = some x ∧ LV vi w D x e := by
  intro i e he
  match i, he with
  | 0, he => simp at he; subst he; exact ⟨u, rfl, h1⟩
  | 1, he => simp at he; subst he; exact ⟨v, rfl, h2⟩
theorem one_at {w : World} {D : Nat → Prop} {u : Value} {c : List Int} (h1 : LV vi w D u c) : ∀ (i : Nat) e, [c][i]? = some e → ∃ x, [u][i]? = some x ∧ LV vi w D x e := by
  intro i e he
  match i, he with
  | 0, he => simp at he; subst he; exact ⟨u, rfl, h1⟩
abbrev slv (b n : Nat) : Value := .slice (some ⟨b, 0, none⟩) n n
theorem LLr.mono {w : World} {D D' : Nat → Prop} {A : Option Addr} {vs : List Value} {l : List (List Int)} (h : LLr w D A vs l) (hd : ∀ b, b < w.heap.size → D b → D' b) : LLr w D' A vs l :=
  ⟨h.row.mono hd, h.len, fun i c hc => by obtain ⟨u, g1, g2⟩ := h.all i c hc; exact ⟨u, g1, g2.mono hd⟩⟩
theorem LL.mono {w : World} {D D' : Nat → Prop} {v : Value} {l : List (List Int)} (h : LL w D v l) (hd : ∀ b, b < w.heap.size → D b → D' b) : LL w D' v l := by
  obtain ⟨A, c, vs, h1, h2, h3⟩ := h
  exact ⟨A, c, vs, h1, h2.mono hd, h3⟩
/-! ### a list of lists that grows -/
/-- The block of a slice that grows. -/
def blkOf (v : Value) (b : Nat) : Prop := ∃ n c, v = .slice (some ⟨b, 0, none⟩) n c
theorem GC.own {w : World} {L : Nat → Prop} {sz n : Nat} {v : Value} {l : List Value} (h : GC w L sz v n l) : GC w (blkOf v) sz v n l := by
  obtain ⟨h0, h | ⟨b, c, rest, h1, h2, h3, h4⟩⟩ := h
  · exact ⟨h0, .inl h⟩
  · exact ⟨h0, .inr ⟨b, c, rest, h1, ⟨n, c, h1⟩, h3, h4⟩⟩
theorem GC.blkOf {w : World} {L : Nat → Prop} {sz n : Nat} {v : Value} {l : List Value} (h : GC w L sz v n l) {b : Nat} (hb : blkOf v b) : L b ∧ b < w.heap.size := by
  obtain ⟨n', c', rfl⟩ := hb
  obtain ⟨h0, ⟨h, _⟩ | ⟨b', c, rest, h1, h2, h3, h4⟩⟩ := h
  · simp at h
  · simp only [Value.slice.injEq, Option.some.injEq, Addr.mk.injEq] at h1
    obtain ⟨⟨rfl, _⟩, _⟩ := h1
    exact ⟨h2, h3.lt⟩
structure OL (w0 w : World) (v : Value) (us : List Value) (l : List (List Int)) : Prop where
  gc : GC w (w0.heap.size ≤ ·) 1 v us.length us
  len : us.length = l.length
  all : ∀ (i : Nat) c, l[i]? = some c → ∃ u, us[i]? = some u ∧ LV vi w (fun b => ¬ blkOf v b) u c
theorem OL.keep {w0 w w' : World} {v : Value} {us : List Value} {l : List (List Int)} (h : OL w0 w v us l) (k : Keep w w' No) : OL w0 w' v us l :=
  ⟨h.gc.keep k (fun _ _ _ h => h), h.len, fun i c hc => by obtain ⟨u, h1, h2⟩ := h.all i c hc; exact ⟨u, h1, h2.keep k (fun _ _ _ h => h)⟩⟩
theorem OL.ll {w0 w : World} {v : Value} {us : List Value} {l : List (List Int)} (h : OL w0 w v us l) : LL w (fun _ => True) v l := by
  obtain ⟨A, c, rfl, hr, hc⟩ := GC.row2 h.gc (by omega)
  rw [h.len] at hc ⊢
  exact ⟨A, c, us, rfl, ⟨hr.mono (fun _ _ _ => trivial), h.len, fun i c hc => by
    obtain ⟨u, h1, h2⟩ := h.all i c hc; exact ⟨u, h1, h2.mono (fun _ _ _ => trivial)⟩⟩, hc⟩
theorem OL.nil (w0 w : World) : OL w0 w (.slice none 0 0) [] [] := ⟨GC.nil _ _ _, rfl, fun i c h => by simp at h⟩
theorem OL.lt {w0 w : World} {v : Value} {us : List Value} {l : List (List Int)} (h : OL w0 w v us l) {b : Nat} (hb : blkOf v b) : w0.heap.size ≤ b ∧ b < w.heap.size := GC.blkOf h.gc hb
/-- 'append(out, c)'. -/
theorem M.appendOL_i {k : Kt} {w0 w : World} {el : Nat} {v u : Value} {us : List Value} {l : List (List Int)} {c : List Int} (h : OL w0 w v us l) (hu : LV vi w (fun b => ¬ blkOf v b) u c) (hs : w0.heap.size ≤ w.heap.size) (hb : l.length ≤ 1000000)
    (hk : ∀ v' us' w', OL w0 w' v' us' (l ++ [c]) → Keep w w' (w0.heap.size ≤ ·) → k v' w') :
    M.buildSlice el 1 #[.slice none 0 0] 1 [(0, u)] (fun t w => M.append el 1 24 #[.slice none 0 0] v t (fun t' w => k t' w) w) w := by
  obtain ⟨B, nc, rfl, _⟩ := id hu
  refine M.buildSlice_i [.slice B c.length nc] (by kernel_rfl) (fun w1 b1 k1 s1 => ?_)
  have h1 := h.keep k1
  have hu1 := hu.keep k1 (fun _ _ _ h => h)
  have e := h.len
  refine M.append_i (GC.own h1.gc) (Row.of_blk' (D := fun _ => True) b1 trivial) rfl (by simp; rfl) rfl (by omega) (by omega) (fun v2 w2 g2 k2 => ?_)
  have q1 := k1.size
  have hv2 : ∀ b, b < w1.heap.size → ¬ blkOf v b → ¬ blkOf v2 b := fun b hb hn hb2 => by
    rcases (GC.blkOf g2 hb2).1 with h | h
    · exact hn h
    · omega
  have hl : ∀ b, blkOf v b → w0.heap.size ≤ b := fun b hb => (h.lt hb).1
  refine hk _ (us ++ [.slice B c.length nc]) _ ⟨by
    have := g2.mono (L' := (w0.heap.size ≤ ·)) (fun b hb h => by
      rcases h with h | h
      · exact hl b h
      · omega)
    simpa using this, by simp [e], fun i d hd => ?_⟩ ((k1.mono (fun _ _ h => h.elim)).trans k2 (fun b hb h => hl b h))
  by_cases hi : i < l.length
  · rw [List.getElem?_append_left hi] at hd
    obtain ⟨x, g, gx⟩ := h1.all i d hd
    exact ⟨x, by rw [List.getElem?_append_left (by omega)]; exact g, (gx.mono (D' := fun b => b < w1.heap.size ∧ ¬ blkOf v b) (fun b hb h => ⟨hb, h⟩)).keep k2 (fun b hb h1 h2 => h1.2 h2) |>.mono (fun b hb h => hv2 b h.1 h.2)⟩
  · rw [List.getElem?_append_right (by omega)] at hd
    have : i - l.length = 0 := by
      have := (List.getElem?_eq_some_iff.1 hd).1; simp at this; omega
    rw [this] at hd
    simp at hd; subst hd
    exact ⟨_, by rw [List.getElem?_append_right (by omega), e, this]; rfl, (hu1.mono (D' := fun b => b < w1.heap.size ∧ ¬ blkOf v b) (fun b hb h => ⟨hb, h⟩)).keep k2 (fun b hb h1 h2 => h1.2 h2) |>.mono (fun b hb h => hv2 b h.1 h.2)⟩
theorem GI.ofL {w : World} {L : Nat → Prop} {v : Value} {xs : List Int} (h : GI w L v xs) (D : Nat → Prop) (hd : ∀ b, b < w.heap.size → L b → D b) : LV vi w D v xs := h.lv.mono hd
end Go.Proofs.Ytfkbacoiocniaaa
