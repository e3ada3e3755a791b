import Derived.Test.YtanjlgafjgoaaaaLib
import Derived.Laws.IdiomCopy
namespace Go.Mw
set_option linter.unusedVariables false
set_option linter.unusedSimpArgs false

/-! ### a run of cells that is stored at once -/
theorem setCells_blk {b : Nat} : ∀ (vs : List Value) (o : Nat) (w : World) (l : List Value), Blk w b l → o + vs.length ≤ l.length →
    Blk (w.setCells b o vs) b (splice l o vs) ∧ Keep w (w.setCells b o vs) (· = b) ∧ (w.setCells b o vs).heap.size = w.heap.size
  | [], o, w, l, h, _ => ⟨by rw [splice_nil]; exact h, Keep.refl _ _, rfl⟩
  | v :: vs, o, w, l, h, hl => by
    have hlt : o < l.length := by simp at hl; omega
    obtain ⟨h1, h2, h3⟩ := setCells_blk vs (o + 1) (w.setCell ⟨b, o, none⟩ v) (l.set o v) (setCell_blk h v) (by simp at hl ⊢; omega)
    refine ⟨?_, (setCell_keep w b o v).trans h2 (fun _ _ h => h), ?_⟩
    · rw [← splice_cons hlt]; exact h1
    · show ((w.setCell ⟨b, o, none⟩ v).setCells b (o + 1) vs).heap.size = _
      rw [h3]; simp
theorem M.next_i {P : Program} {s : Sem Value} {v : Value} {w w' : World} {k : Kt} (h : s.run P w = .ok v w') (hk : k v w') : M.next P (do pure (.value (← s))) k w := execW_value h hk
/-- 'copy(dst, src)' of lists of one length. -/
theorem M.copy_i {P : Program} {k : Kt} {w : World} {dT sT ty elem : TypeId} {cs : Array Bool} {L D : Nat → Prop} {A B : Option Addr} {n c c' : Nat} {xs ys : List Int}
    (hu : P.underlying dT = some (.slice elem)) (hs : (P.info? elem).map (·.size) = some 1) (h : GI w L (.slice A n c) xs) (hr : Row w D B (ys.map vi)) (hn : ys.length = xs.length)
    (hk : ∀ w', GI w' L (.slice A n c) ys → Keep w w' L → w'.heap.size = w.heap.size → k (.int .i64 n) w') :
    M.next P (builtin .copy #[dT, sT] ty cs #[.slice A n c, .slice B ys.length c']) k w := by
  obtain ⟨h0, ⟨h1, h2⟩ | ⟨b, cc, rest, h1, h2, h3, h4⟩⟩ := h
  · have hx : xs = [] := List.length_eq_zero_iff.1 h2
    subst hx
    have hy : ys = [] := List.length_eq_zero_iff.1 hn
    subst hy
    simp only [Value.slice.injEq] at h1
    obtain ⟨rfl, rfl, rfl⟩ := h1
    exact M.next_i (run_copy_none w dT sT ty elem none B 0 0 0 c' hu hs rfl) (hk w ⟨rfl, .inl ⟨rfl, rfl⟩⟩ (Keep.refl _ _) rfl)
  · simp only [Value.slice.injEq] at h1
    obtain ⟨rfl, rfl, rfl⟩ := h1
    have hL : (ys.map vi).length = (xs.map vi).length := by simp [hn]
    rcases Nat.eq_zero_or_pos xs.length with hz | hz
    · have hx : xs = [] := List.length_eq_zero_iff.1 hz
      subst hx
      have hy : ys = [] := List.length_eq_zero_iff.1 hn
      subst hy
      exact M.next_i (run_copy_none w dT sT ty elem _ B 0 c 0 c' hu hs rfl) (hk w ⟨rfl, .inr ⟨b, c, rest, rfl, h2, h3, h4⟩⟩ (Keep.refl _ _) rfl)
    · rcases hr with hr | ⟨b2, o2, c2, T2, fz2, rfl, hD2, hb2, hg2⟩
      · have : ys.length = 0 := by simpa using congrArg List.length hr
        omega
      · obtain ⟨g1, g2, g3⟩ := setCells_blk (ys.map vi) 0 w (xs.map vi ++ rest) h3 (by simp; omega)
        have run := run_copy_cells (P := P) w dT sT ty elem b 0 xs.length c ⟨b2, o2, none⟩ ys.length c' (ys.map vi) hu hs (by simp [hn]) (fun j v hj => by
            rw [add_mk]
            have := hg2 j (List.getElem?_eq_some_iff.1 hj).1
            rw [hj] at this
            simp [World.cell?, hb2, this])
          (fun j hj => by
            have hj' : j < (xs.map vi ++ rest).length := by simp at hj ⊢; omega
            rw [Nat.zero_add, h3.cell (List.getElem?_eq_getElem hj')]; rfl)
          (fun j hj => h3.frozen) (vi_one ys)
        have e : goInt (ys.map vi).length = .int .i64 xs.length := by simp [goInt, hn]
        rw [e] at run
        refine M.next_i run (hk _ ⟨by simp, .inr ⟨b, c, rest, by simp [hn], h2, ?_, by simpa [hn] using h4⟩⟩ (g2.mono (fun _ _ h => by subst h; exact h2)) g3)
        have : splice (xs.map vi ++ rest) 0 (ys.map vi) = ys.map vi ++ rest := by
          unfold splice
          simp [← hn]
        rw [this] at g1
        exact g1
/-- 'clear(s[i:])'. -/
theorem M.clearTail_i {P : Program} {k : Kt} {w : World} {T ty elem : TypeId} {cs : Array Bool} {L : Nat → Prop} {A : Option Addr} {n c : Nat} {xs : List Int} {i : Nat}
    (hu : P.underlying T = some (.slice elem)) (hz : ∀ w, (zeroValue elem).run P w = .ok (vi 0) w) (h : GI w L (.slice A n c) xs) (hi : i ≤ xs.length)
    (hk : ∀ w', GI w' L (.slice A n c) (xs.take i ++ List.replicate (xs.length - i) 0) → Keep w w' L → w'.heap.size = w.heap.size → k (.tuple #[]) w') :
    M.next P (builtin .clear #[T] ty cs #[.slice (if c = i then A else A.map (·.add (i * 1))) (n - i) (c - i)]) k w := by
  obtain ⟨h0, ⟨h1, h2⟩ | ⟨b, cc, rest, h1, h2, h3, h4⟩⟩ := h
  · have hx : xs = [] := List.length_eq_zero_iff.1 h2
    subst hx
    simp only [Value.slice.injEq] at h1
    obtain ⟨rfl, rfl, rfl⟩ := h1
    have hi0 : i = 0 := by simpa using hi
    subst hi0
    refine M.next_i (v := .tuple #[]) (w' := w) ?_ (hk w ⟨rfl, .inl ⟨rfl, rfl⟩⟩ (Keep.refl _ _) rfl)
    simp [Builtin.clear_, run_underlying hu]
  · simp only [Value.slice.injEq] at h1
    obtain ⟨rfl, rfl, rfl⟩ := h1
    by_cases hin : i = xs.length
    · subst hin
      refine M.next_i (v := .tuple #[]) (w' := w) ?_ (hk w ⟨by simp, .inr ⟨b, c, rest, by simp, h2, by simpa using h3, by simpa using h4⟩⟩ (Keep.refl _ _) rfl)
      have e : xs.length - xs.length = 0 := Nat.sub_self _
      rw [e]
      split <;> simp [Builtin.clear_, run_underlying hu]
    · have hlt : i < xs.length := by omega
      have hc : ¬ c = i := by simp at h4; omega
      obtain ⟨m, hm⟩ : ∃ m, xs.length - i = m + 1 := ⟨xs.length - i - 1, by omega⟩
      obtain ⟨g1, g2, g3⟩ := setCells_blk (List.replicate (m + 1) (vi 0)) i w (xs.map vi ++ rest) h3 (by simp; omega)
      have run := run_storeCells_cells (P := P) b i (List.replicate (m + 1) (vi 0)) 0 w (fun j hj => by
          have hj' : i + 0 + j < (xs.map vi ++ rest).length := by simp at hj ⊢; omega
          rw [h3.cell (List.getElem?_eq_getElem hj')]; rfl) (fun j hj => h3.frozen) (fun v hv => by rw [List.eq_of_mem_replicate hv]; rfl)
      refine M.next_i (v := .tuple #[]) (w' := w.setCells b i (List.replicate (m + 1) (vi 0))) ?_ (hk _ ⟨by simp; try omega, .inr ⟨b, c, rest, by simp; try omega, h2, ?_, by simp at h4 ⊢; omega⟩⟩ (g2.mono (fun _ _ h => by subst h; exact h2)) g3)
      · rw [if_neg hc, hm]
        have e2 : (Builtin.zeroCells (vi 0).cells (m + 1)).toList = List.replicate (m + 1) (vi 0) := by
          apply List.ext_getElem?
          intro j
          by_cases hj : j < m + 1
          · simp [Builtin.zeroCells, Value.cells, hj, Nat.mod_one]
          · simp [Builtin.zeroCells, Value.cells, hj]
        have e3 : ((some (⟨b, 0, none⟩ : Addr)).map (·.add (i * 1))) = some ⟨b, i, none⟩ := by simp [add_mk]
        rw [e3]
        simp only [Nat.add_zero] at run
        simp [Builtin.clear_, run_underlying hu, hz, e2, run]
      · have : splice (xs.map vi ++ rest) i (List.replicate (m + 1) (vi 0)) = (xs.take i ++ List.replicate (xs.length - i) 0).map vi ++ rest := by
          unfold splice
          rw [hm, List.take_append_of_le_length (by simp; omega), List.drop_append]
          simp only [List.length_map, List.length_replicate, List.map_append, List.map_take, List.map_replicate]
          rw [List.drop_eq_nil_of_le (by simp; omega)]
          have : i + (m + 1) - xs.length = 0 := by omega
          rw [this]
          simp
        rw [this] at g1
        exact g1
/-- A call of a function value of the program's own. -/
theorem M.callv_i {P : Program} {f : FuncId} {first cap args : Array Value} {w : World} {Q k : Kt} (hf : ∀ a w, (callFunc f a).run P w = .ok (.enter f a) w) (h : Ret P f ((first ++ args) ++ cap) w Q) (hk : ∀ v w', Q v w' → k v w') :
    M.callv P (.func (.func f) first cap) args k w := by
  unfold M.callv execW
  have : (do let d ← Deferred.ofValue (.func (.func f) first cap) args; invoke d.target d.args : Sem Next).run P w = .ok (.enter f ((first ++ args) ++ cap)) w := by
    simp [Deferred.ofValue, invoke, hf]
  rw [this]
  exact h.mono hk

theorem Keep.cell {w w' : World} {S : Nat → Prop} (k : Keep w w' S) {b o : Nat} {v : Value} (hs : ¬ S b) (h : w.cell? ⟨b, o, none⟩ = some v) : w'.cell? ⟨b, o, none⟩ = some v := by
  have hb : b < w.heap.size := by
    apply Classical.byContradiction
    intro hn
    have : w.heap[b]? = none := by simp; omega
    simp [World.cell?, this] at h
  have e : w'.heap[b]? = w.heap[b]? := k.blk b hb hs
  simpa [World.cell?, e] using h
/-! ### a list that is read: a slice of one-cell elements -/
def LV {α : Type} (f : α → Value) (w : World) (D : Nat → Prop) (v : Value) (xs : List α) : Prop := ∃ A c, v = .slice A xs.length c ∧ Row w D A (xs.map f) ∧ xs.length ≤ c
theorem LV.keep {α : Type} {f : α → Value} {w w' : World} {D S : Nat → Prop} {v : Value} {xs : List α} (h : LV f w D v xs) (k : Keep w w' S) (hs : ∀ b, b < w.heap.size → D b → ¬ S b) : LV f w' D v xs := by
  obtain ⟨A, c, h1, h2, h3⟩ := h
  exact ⟨A, c, h1, h2.keep k hs, h3⟩
theorem LV.mono {α : Type} {f : α → Value} {w : World} {D D' : Nat → Prop} {v : Value} {xs : List α} (h : LV f w D v xs) (hd : ∀ b, b < w.heap.size → D b → D' b) : LV f w D' v xs := by
  obtain ⟨A, c, h1, h2, h3⟩ := h
  exact ⟨A, c, h1, h2.mono hd, h3⟩
theorem LV.nil {α : Type} (f : α → Value) (w : World) (D : Nat → Prop) : LV f w D (.slice none 0 0) ([] : List α) := ⟨none, 0, rfl, .inl rfl, Nat.le_refl _⟩
theorem GI.lv {w : World} {L : Nat → Prop} {v : Value} {xs : List Int} (h : GI w L v xs) : LV vi w L v xs := by
  obtain ⟨A, c, rfl, h2, h3⟩ := GC.row2 h (by omega)
  exact ⟨A, c, by simp, h2, by simpa using h3⟩
/-- The cells of 's[n:]'. -/
theorem Row.tail {w : World} {D : Nat → Prop} {A : Option Addr} {l : List Value} {n c : Nat} (h : Row w D A l) (hc : l.length ≤ c) : Row w D (if c = n then A else A.map (·.add (n * 1))) (l.drop n) := by
  split
  · rename_i h1
    exact .inl (List.drop_eq_nil_of_le (by omega))
  · rw [Nat.mul_one]; exact h.drop n
theorem M.appendI_i {k : Kt} {w : World} {el : Nat} {zero : Array Value} {L D : Nat → Prop} {v : Value} {xs ys : List Int} {B : Option Addr} {n c : Nat} (hn : n = ys.length)
    (h : GI w L v xs) (hr : Row w D B (ys.map vi)) (hz : zero.size = 1) (hb : xs.length + ys.length ≤ 1000000000000)
    (hk : ∀ v' w', GI w' (fun b => L b ∨ w.heap.size ≤ b) v' (xs ++ ys) → Keep w w' L → k v' w') : M.append el 1 8 zero v (.slice B n c) k w := by
  subst hn
  exact M.append_i h hr (by simp) (vi_one _) hz (by omega) (by omega) (fun v' w' h1 h2 => hk v' w' (by simpa [GI] using h1) h2)
/-- The cell of element i. -/
theorem M.idxLV_i {α : Type} {f : α → Value} {k : Kt} {w : World} {D : Nat → Prop} {A : Option Addr} {xs : List α} {n c : Nat} {d : IntKind} {i : Int} (hr : Row w D A (xs.map f)) (hn : xs.length = n) (h0 : 0 ≤ i) (h1 : i < n) {x : α} (hx : xs[i.toNat]? = some x)
    (h : ∀ b o, A = some ⟨b, o, none⟩ → w.cell? ⟨b, o + i.toNat, none⟩ = some (f x) → k (.pointer (some ⟨b, o + i.toNat, none⟩)) w) : M.indexSl 1 (.slice A n c) (.int d i) k w := by
  refine M.idxRow_i hr (by simpa using hn) h0 h1 (fun b o hA hc => h b o hA ?_)
  rw [hc, List.getElem?_map, hx]; rfl
end Go.Mw
