import Derived.Test.YtanjlgafjgoaaaaWordM
import Derived.Test.YtanjlgafjgoaaaaRef03
namespace Go.Proofs.Ytanjlgafjgoaaaa
open Go.Mw
set_option linter.unusedVariables false
set_option linter.unusedSimpArgs false
set_option maxRecDepth 100000
attribute [local irreducible] M.val M.unit M.next M.pick M.new M.nilCheck M.load1 M.loadA M.store M.fieldAddr M.indexSl M.indexArr M.slice M.makeSlice M.buildSlice M.len M.lenS M.cap M.append M.extract M.conv M.not M.neg M.bin M.shift M.eqB M.eqNil M.scat M.call M.callv M.gd M.share M.cond M.loop M.draw pureW readW Ret
/-- A list of structures that is read. -/
def LN {α : Type} (f : α → List Value) (w : World) (D : Nat → Prop) (v : Value) (xs : List α) : Prop := ∃ A c, v = .slice A xs.length c ∧ Row w D A (xs.flatMap f) ∧ xs.length ≤ c
theorem LN.keep {α : Type} {f : α → List Value} {w w' : World} {D S : Nat → Prop} {v : Value} {xs : List α} (h : LN f w D v xs) (k : Keep w w' S) (hs : ∀ b, b < w.heap.size → D b → ¬ S b) : LN f w' D v xs := by
  obtain ⟨A, c, h1, h2, h3⟩ := h
  exact ⟨A, c, h1, h2.keep k hs, h3⟩
theorem LN.mono {α : Type} {f : α → List Value} {w : World} {D D' : Nat → Prop} {v : Value} {xs : List α} (h : LN f w D v xs) (hd : ∀ b, b < w.heap.size → D b → D' b) : LN f w D' v xs := by
  obtain ⟨A, c, h1, h2, h3⟩ := h
  exact ⟨A, c, h1, h2.mono hd, h3⟩
theorem LN.nil {α : Type} (f : α → List Value) (w : World) (D : Nat → Prop) : LN f w D (.slice none 0 0) ([] : List α) := ⟨none, 0, rfl, .inl rfl, Nat.le_refl _⟩
theorem flat_len {α : Type} {f : α → List Value} {sz : Nat} (hf : ∀ x, (f x).length = sz) : ∀ xs : List α, (xs.flatMap f).length = xs.length * sz
  | [] => by simp
  | x :: xs => by
    rw [List.flatMap_cons, List.length_append, hf, flat_len hf xs, List.length_cons, Nat.add_mul, Nat.one_mul]; omega
theorem flat_get {α : Type} {f : α → List Value} {sz : Nat} (hf : ∀ x, (f x).length = sz) : ∀ {xs : List α} {i : Nat} {x : α} (j : Nat), xs[i]? = some x → j < sz → (xs.flatMap f)[i * sz + j]? = (f x)[j]?
  | [], i, x, j, h, _ => by simp at h
  | y :: xs, 0, x, j, h, hj => by
    simp at h; subst h
    rw [List.flatMap_cons, List.getElem?_append_left (by rw [hf]; omega)]
    congr 1; omega
  | y :: xs, i + 1, x, j, h, hj => by
    simp only [List.getElem?_cons_succ] at h
    have e : (i + 1) * sz = i * sz + sz := by rw [Nat.add_mul, Nat.one_mul]
    rw [List.flatMap_cons, List.getElem?_append_right (by rw [hf]; omega), ← flat_get hf j h hj, hf]
    congr 1; omega
/-- The cells of an element. -/
theorem M.idxF_i {α : Type} {f : α → List Value} {sz : Nat} {k : Kt} {w : World} {D : Nat → Prop} {A : Option Addr} {xs : List α} {n c : Nat} {d : IntKind} {i : Int} {x : α} (hf : ∀ x, (f x).length = sz) (hs : 0 < sz) (hr : Row w D A (xs.flatMap f)) (hm : xs.length = n) (h0 : 0 ≤ i) (hx : xs[i.toNat]? = some x)
    (h : ∀ b o, (∀ (j : Nat) v, (f x)[j]? = some v → w.cell? ⟨b, o + j, none⟩ = some v) → k (.pointer (some ⟨b, o, none⟩)) w) : M.indexSl sz (.slice A n c) (.int d i) k w := by
  have hlt := (List.getElem?_eq_some_iff.1 hx).1
  refine M.idxRowN_i hr (by rw [flat_len hf, hm]) hs h0 (by omega) (fun b o _ hc => h b _ (fun j v hv => ?_))
  have hj : j < sz := by
    have := (List.getElem?_eq_some_iff.1 hv).1
    rw [hf] at this; exact this
  rw [hc j hj, flat_get hf j hx hj, hv]
/-- A list of words that grows. -/
abbrev GW (w : World) (L : Nat → Prop) (v : Value) (xs : List W64) : Prop := GC w L 1 v xs.length (xs.map vw)
theorem GW.lv {w : World} {L : Nat → Prop} {v : Value} {xs : List W64} (h : GW w L v xs) : LV vw w L v xs := by
  obtain ⟨A, c, rfl, h2, h3⟩ := GC.row2 h (by omega)
  exact ⟨A, c, by simp, h2, by simpa using h3⟩
theorem vw_one (xs : List W64) : ∀ y ∈ xs.map vw, y.oneCell' = true := by
  intro y hy
  obtain ⟨x, _, rfl⟩ := List.mem_map.1 hy
  rfl
/-- 'append(v, x)' of a word. -/
theorem M.appendW_i {k : Kt} {w : World} {el : Nat} {L : Nat → Prop} {v : Value} {xs : List W64} {x : W64} (h : GW w L v xs) (hb : xs.length ≤ 1000000000000)
    (hk : ∀ v' w', GW w' (fun b => L b ∨ w.heap.size ≤ b) v' (xs ++ [x]) → Keep w w' L → k v' w') :
    M.buildSlice el 1 #[.int .u64 0] 1 [(0, vw x)] (fun t w => M.append el 1 8 #[.int .u64 0] v t k w) w := by
  refine M.buildSlice_i [vw x] (by kernel_rfl) (fun w1 b1 k1 s1 => ?_)
  have h1 := h.keep k1 (fun _ _ _ h => h)
  refine M.append_i h1 (Row.of_blk' (D := fun _ => True) b1 trivial) rfl (by simp; rfl) rfl (by omega) (by omega) (fun v2 w2 g2 k2 => ?_)
  have q1 := k1.size
  refine hk _ _ ?_ ((k1.mono (fun _ _ h => h.elim)).trans k2 (fun _ _ h => h))
  have := g2.mono (L' := fun b => L b ∨ w.heap.size ≤ b) (fun b hb h => by
    rcases h with h | h
    · exact .inl h
    · exact .inr (by omega))
  simpa [GW] using this
theorem LV.one {α : Type} {f : α → Value} {w : World} {D : Nat → Prop} {v : Value} {xs : List α} (h : LV f w D v xs) : v.oneCell' = true := by
  obtain ⟨A, c, rfl, _⟩ := h; rfl
theorem LN.one {α : Type} {f : α → List Value} {w : World} {D : Nat → Prop} {v : Value} {xs : List α} (h : LN f w D v xs) : v.oneCell' = true := by
  obtain ⟨A, c, rfl, _⟩ := h; rfl
end Go.Proofs.Ytanjlgafjgoaaaa
