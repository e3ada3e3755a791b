import Derived.Test.YtanjlgafjgoaaaaLib
import Derived.WalkKit
import Derived.ProofKit
import Derived.OpenShut
import Derived.ShutString
import Derived.ChangeOld
import Derived.Below
import Derived.SizedLaws
import Derived.Carry
import Derived.ChangeArms
import Derived.Lib.SmallJoins
import Derived.Deep.Slices
set_option linter.unusedVariables false
set_option linter.unusedSimpArgs false
namespace Go.Mw
open Go.RowKit Go.ChangeShapes Go.WideShapes Go.ChangeAt Go.Deep

theorem Keep.below {w w' : World} (h : Keep w w' No) : Below w.heap.size w w' :=
  ⟨h.os, h.tape, h.output, h.size, fun k hk => h.blk k hk (fun h => h)⟩

section
variable {H : Type} {enc : TypeId × Value → H} {P : Program} {w : World} {base : Nat} {spare : Nat → Bool} {held : Bool}

/-- What a reading at a type of whole numbers gives. -/
theorem dec_int {t : TypeId} {k : IntKind} {fuel : Nat} {cs : List Value} {x : DataW H × List MemPlace} (ht : P.underlying t = some (.int k)) (h : DataW.trod enc P w base spare held fuel t cs = some x) :
    ∃ n, cs = [.int k n] ∧ (Lit.int k n).wf = true := by
  obtain ⟨n, h1, _, h2⟩ := DataW.trod_int ht h
  exact ⟨n, h1, h2⟩
theorem wf_i64 {n : Int} (h : (Lit.int .i64 n).wf = true) : -9223372036854775808 ≤ n ∧ n < 9223372036854775808 := by
  simp [Lit.wf, IntKind.min, IntKind.max, IntKind.signed, IntKind.bits] at h
  omega
theorem wf_u64 {n : Int} (h : (Lit.int .u64 n).wf = true) : 0 ≤ n ∧ n < 18446744073709551616 := by
  simp [Lit.wf, IntKind.min, IntKind.max, IntKind.signed, IntKind.bits] at h
  omega

theorem arg_int {r : Reach} {b0 : Nat} {t : TypeId} {k : IntKind} {v : Value} {d : DataW H} {ps : List MemPlace} (ht : P.underlying t = some (.int k)) (hv : Value.okWide P w r b0 t v) (h : DataW.Trod enc P w base spare held t v d ps) :
    ∃ n, v = .int k n ∧ (Lit.int k n).wf = true := by
  obtain ⟨n, h1, _, _, h2⟩ := open_int ht hv h
  exact ⟨n, h1, h2⟩

theorem cells_row {a : Addr} {l : List Value} (h : ∀ i (hi : i < l.length), w.cell? (a.add i) = some l[i]) : Row w (· < w.heap.size) (some a) l := by
  rcases Nat.eq_zero_or_pos l.length with h0 | h0
  · exact .inl (List.length_eq_zero_iff.1 h0)
  have h1 := h 0 h0
  have ha : a.add 0 = a := rfl
  rw [ha] at h1
  obtain ⟨b, o, sp⟩ := a
  have hlt := World.block_lt_of_cell? w _ h1
  have hsp : sp = none := by
    cases sp with
    | none => rfl
    | some s =>
      simp only [World.cell?] at h1
      split at h1 <;> simp at h1
  subst hsp
  cases hb : w.heap[b]? with
  | none => simp [World.cell?, hb] at h1
  | some ob =>
    cases ob with
    | cells c T fz =>
      refine .inr ⟨b, o, c, T, fz, rfl, hlt, hb, fun i hi => ?_⟩
      have := h i hi
      rw [add_mk] at this
      simp only [World.cell?, hb] at this
      rw [List.getElem?_eq_getElem hi]
      simpa using this
    | _ => simp [World.cell?, hb] at h1

theorem cells_get {a : Addr} {n : Nat} {cs : List Value} (h : w.cells? base a n = some cs) : cs.length = n ∧ ∀ i (hi : i < cs.length), w.cell? (a.add i) = some cs[i] := by
  unfold World.cells? at h
  split at h
  · have hl := mapM_some_length h
    refine ⟨by simpa using hl, fun i hi => ?_⟩
    have hl' : cs.length = n := by simpa using hl
    have := mapM_some_get h i i (by rw [List.getElem?_range (by omega)])
    rw [this, List.getElem?_eq_getElem hi]
  · cases h

theorem add_add (a : Addr) (m n : Nat) (h : a.spot = none) : (a.add m).add n = a.add (m + n) := by
  obtain ⟨b, o, sp⟩ := a
  have h : sp = none := h
  subst h
  rw [add_mk, add_mk, add_mk, Nat.add_assoc]

/-- A slice opened: its elements, each by what a reading of it gives. -/
theorem open_list {α : Type} {t e : TypeId} {fuel : Nat} {cs : List Value} {x : DataW H × List MemPlace} (ht : P.underlying t = some (.slice e)) {sz : Nat} (hsz : P.cellsOf e = sz) (hpos : 0 < sz)
    (h : DataW.trod enc P w base spare held fuel t cs = some x) (en : α → List Value) (Good : α → Prop)
    (dec : ∀ n cs y, DataW.trod enc P w base spare held n e cs = some y → cs.length = sz → ∃ z, cs = en z ∧ Good z) :
    ∃ A c, ∃ xs : List α, cs = [.slice A xs.length c] ∧ Row w (· < w.heap.size) A (xs.flatMap en) ∧ (∀ z ∈ xs, Good z ∧ (en z).length = sz) ∧ xs.length ≤ c ∧ c ≤ maxLen ∧ (xs.flatMap en).length = xs.length * sz := by
  rcases open_slice ht h with ⟨rfl, _⟩ | ⟨a, len, cap, m, n, D, Pl, rfl, hb, hl, hm, hmm, rfl, hx⟩
  · exact ⟨none, 0, [], rfl, .inl rfl, by simp, Nat.le_refl _, by unfold maxLen; omega, by simp⟩
  · have hlm : len ≤ m := by rw [hmm]; split <;> omega
    have hz : ∀ i, i < len → ∃ z, w.cells? base (a.add (i * sz)) sz = some (en z) ∧ Good z ∧ (en z).length = sz := fun i hi => by
      obtain ⟨cs', h1, h2⟩ := hx i (by omega)
      rw [hsz] at h1
      have hlen := (cells_get h1).1
      obtain ⟨z, rfl, hg⟩ := dec _ _ _ h2 hlen
      exact ⟨z, h1, hg, hlen⟩
    have : ∀ k, k ≤ len → ∃ xs : List α, xs.length = k ∧ ∀ i (hi : i < xs.length), w.cells? base (a.add (i * sz)) sz = some (en xs[i]) ∧ Good xs[i] ∧ (en xs[i]).length = sz := by
      intro k
      induction k with
      | zero => intro _; exact ⟨[], rfl, fun i hi => by simp at hi⟩
      | succ k ih =>
        intro hk
        obtain ⟨xs, h1, h2⟩ := ih (by omega)
        obtain ⟨z, h3, h4, h5⟩ := hz k (by omega)
        refine ⟨xs ++ [z], by simp [h1], fun i hi => ?_⟩
        by_cases hik : i < xs.length
        · rw [List.getElem_append_left hik]; exact h2 i hik
        · have : i = xs.length := by simp at hi; omega
          subst this
          rw [List.getElem_append_right (Nat.le_refl _)]
          simp only [Nat.sub_self, List.getElem_cons_zero]
          rw [h1]; exact ⟨h3, h4, h5⟩
    obtain ⟨xs, hxl, hxs⟩ := this len (Nat.le_refl _)
    have hflen : ∀ l : List α, (∀ z ∈ l, (en z).length = sz) → (l.flatMap en).length = l.length * sz := by
      intro l
      induction l with
      | nil => intro _; simp
      | cons z l ih =>
        intro hl
        simp only [List.flatMap_cons, List.length_append, List.length_cons, hl z List.mem_cons_self, ih (fun y hy => hl y (List.mem_cons_of_mem _ hy)), Nat.add_mul]
        omega
    have hall : ∀ z ∈ xs, Good z ∧ (en z).length = sz := fun z hz => by
      obtain ⟨i, hi⟩ := List.mem_iff_getElem.1 hz
      obtain ⟨hi, rfl⟩ := hi
      exact (hxs i hi).2
    subst hxl
    refine ⟨some a, cap, xs, rfl, ?_, hall, hl, hm, hflen xs fun z hz => (hall z hz).2⟩
    refine cells_row fun j hj => ?_
    -- the cell j is the cell j % sz of element j / sz
    have hfl := hflen xs fun z hz => (hall z hz).2
    have hj' : j < xs.length * sz := by omega
    have hd : j / sz < xs.length := Nat.div_lt_of_lt_mul (by rw [Nat.mul_comm]; exact hj')
    obtain ⟨c1, _, c3⟩ := hxs (j / sz) hd
    obtain ⟨_, c4⟩ := cells_get c1
    have hmod : j % sz < sz := Nat.mod_lt _ hpos
    have c5 := c4 (j % sz) (by omega)
    have hspot : a.spot = none := by
      cases hs : a.spot with
      | none => rfl
      | some s =>
        exfalso
        obtain ⟨c1, _, c3⟩ := hxs 0 (Nat.lt_of_le_of_lt (Nat.zero_le _) hd)
        have c4 := (cells_get c1).2 0 (by omega)
        simp only [Nat.zero_mul] at c4
        have ha : (a.add 0).add 0 = a := rfl
        rw [ha] at c4
        simp only [World.cell?, hs] at c4
        split at c4 <;> simp at c4
    rw [add_add _ _ _ hspot] at c5
    have e1 : j / sz * sz + j % sz = j := by rw [Nat.mul_comm]; exact Nat.div_add_mod j sz
    rw [e1] at c5
    rw [c5]
    congr 1
    have key : ∀ (l : List α) (i : Nat) (k : Nat) (hi : i < l.length) (hk : k < (en l[i]).length), (∀ z ∈ l, (en z).length = sz) → (l.flatMap en)[i * sz + k]? = some ((en l[i])[k]) := by
      intro l
      induction l with
      | nil => intro i k hi; simp at hi
      | cons z l ih =>
        intro i k hi hk hl
        cases i with
        | zero =>
          simp only [List.flatMap_cons, Nat.zero_mul, Nat.zero_add, List.getElem_cons_zero] at hk ⊢
          rw [List.getElem?_append_left hk, List.getElem?_eq_getElem hk]
        | succ i =>
          simp only [List.flatMap_cons, List.getElem_cons_succ] at hk ⊢
          have hzl := hl z List.mem_cons_self
          rw [List.getElem?_append_right (by rw [Nat.add_mul]; omega)]
          have e2 : (i + 1) * sz + k - (en z).length = i * sz + k := by rw [Nat.add_mul]; omega
          rw [e2]
          exact ih i k (by simpa using hi) hk (fun y hy => hl y (List.mem_cons_of_mem _ hy))
    have k1 := key xs (j / sz) (j % sz) hd (by omega) (fun z hz => (hall z hz).2)
    rw [e1, List.getElem?_eq_getElem hj] at k1
    exact (Option.some.inj k1).symm

/-- A slice argument opened. -/
theorem arg_list {α : Type} {r : Reach} {b0 : Nat} {t e : TypeId} {v : Value} {d : DataW H} {ps : List MemPlace} (ht : P.underlying t = some (.slice e)) {sz : Nat} (hsz : P.cellsOf e = sz) (hpos : 0 < sz)
    (hv : Value.okWide P w r b0 t v) (h : DataW.Trod enc P w base spare held t v d ps) (en : α → List Value) (Good : α → Prop)
    (dec : ∀ n cs y, DataW.trod enc P w base spare held n e cs = some y → cs.length = sz → ∃ z, cs = en z ∧ Good z) :
    ∃ A c, ∃ xs : List α, v = .slice A xs.length c ∧ Row w (· < w.heap.size) A (xs.flatMap en) ∧ (∀ z ∈ xs, Good z ∧ (en z).length = sz) ∧ xs.length ≤ c ∧ c ≤ maxLen ∧ (xs.flatMap en).length = xs.length * sz := by
  obtain ⟨fuel, hf⟩ := h
  obtain ⟨a, len, cap, rfl⟩ := okWide_slice ht hv
  obtain ⟨A, c, xs, h1, h2⟩ := open_list ht hsz hpos hf en Good dec
  simp only [Value.cells, List.cons.injEq, and_true] at h1
  exact ⟨A, c, xs, h1, h2⟩
theorem flat1 {α : Type} (f : α → Value) (xs : List α) : xs.flatMap (fun z => [f z]) = xs.map f := by
  induction xs with
  | nil => rfl
  | cons x xs ih => simp [ih]
end
end Go.Mw
