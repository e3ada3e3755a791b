import Derived.Test.YtanjlgafjgoaaaaLit
namespace Go.Proofs.Ytanjlgafjgoaaaa
open Go.Mw
set_option linter.unusedVariables false
set_option linter.unusedSimpArgs false
set_option maxRecDepth 100000
attribute [local irreducible] M.val M.unit M.next M.pick M.new M.nilCheck M.load1 M.loadA M.store M.fieldAddr M.indexSl M.indexArr M.slice M.makeSlice M.buildSlice M.len M.lenS M.cap M.append M.extract M.conv M.not M.neg M.bin M.shift M.eqB M.eqNil M.scat M.call M.callv M.gd M.share M.cond M.loop M.draw pureW readW Ret

/-! ### lists of numbers (no program here) -/
def insU (x : Int) : List Int → List Int
  | [] => [x]
  | y :: l => if x < y then x :: y :: l else if x = y then y :: l else y :: insU x l
/-- By rising numbers, each once. -/
def srt (xs : List Int) : List Int := xs.foldr insU []
theorem mem_insU (x y : Int) : ∀ l : List Int, y ∈ insU x l ↔ y = x ∨ y ∈ l
  | [] => by simp [insU]
  | z :: l => by
    unfold insU
    split
    · simp
    · split
      · rename_i h; subst h; simp
      · simp [mem_insU x y l]; constructor <;> (intro h; rcases h with h | h | h <;> simp [h])
theorem insU_lt (x : Int) : ∀ l : List Int, l.Pairwise (· < ·) → (insU x l).Pairwise (· < ·)
  | [], _ => by simp [insU]
  | z :: l, h => by
    obtain ⟨h1, h2⟩ := List.pairwise_cons.1 h
    unfold insU
    split
    · rename_i hx
      refine List.pairwise_cons.2 ⟨fun y hy => ?_, h⟩
      rcases List.mem_cons.1 hy with rfl | hy
      · exact hx
      · have := h1 y hy; omega
    · split
      · exact h
      · refine List.pairwise_cons.2 ⟨fun y hy => ?_, insU_lt x l h2⟩
        rcases (mem_insU x y l).1 hy with rfl | hy
        · omega
        · exact h1 y hy
theorem srt_lt (xs : List Int) : (srt xs).Pairwise (· < ·) := by
  induction xs with
  | nil => simp [srt]
  | cons x xs ih => exact insU_lt x _ ih
theorem mem_srt (xs : List Int) (y : Int) : y ∈ srt xs ↔ y ∈ xs := by
  induction xs with
  | nil => simp [srt]
  | cons x xs ih =>
    show y ∈ insU x (srt xs) ↔ _
    rw [mem_insU, ih]
    simp
/-- Two rising lists of the same numbers are one. -/
theorem lt_ext : ∀ (l m : List Int), l.Pairwise (· < ·) → m.Pairwise (· < ·) → (∀ y, y ∈ l ↔ y ∈ m) → l = m
  | [], [], _, _, _ => rfl
  | [], y :: m, _, _, h => by have := (h y).2 List.mem_cons_self; simp at this
  | x :: l, [], _, _, h => by have := (h x).1 List.mem_cons_self; simp at this
  | x :: l, y :: m, hl, hm, h => by
    obtain ⟨l1, l2⟩ := List.pairwise_cons.1 hl
    obtain ⟨m1, m2⟩ := List.pairwise_cons.1 hm
    have hxy : x = y := by
      rcases List.mem_cons.1 ((h x).1 List.mem_cons_self) with h1 | h1
      · exact h1
      · rcases List.mem_cons.1 ((h y).2 List.mem_cons_self) with h2 | h2
        · exact h2.symm
        · have := m1 x h1; have := l1 y h2; omega
    subst hxy
    congr 1
    refine lt_ext l m l2 m2 (fun z => ⟨fun hz => ?_, fun hz => ?_⟩)
    · rcases List.mem_cons.1 ((h z).1 (List.mem_cons_of_mem _ hz)) with h1 | h1
      · subst h1; have := l1 z hz; omega
      · exact h1
    · rcases List.mem_cons.1 ((h z).2 (List.mem_cons_of_mem _ hz)) with h1 | h1
      · subst h1; have := m1 z hz; omega
      · exact h1
theorem eq_srt {xs ys : List Int} (h1 : ys.Pairwise (· < ·)) (h2 : ∀ y, y ∈ ys ↔ y ∈ xs) : ys = srt xs :=
  lt_ext _ _ h1 (srt_lt xs) (fun y => by rw [h2, mem_srt])
theorem len_insU (x : Int) : ∀ l : List Int, (insU x l).length ≤ l.length + 1
  | [] => by simp [insU]
  | y :: l => by
    unfold insU
    split
    · simp
    · split
      · simp
      · have := len_insU x l; simp; omega
theorem len_srt (xs : List Int) : (srt xs).length ≤ xs.length := by
  induction xs with
  | nil => simp [srt]
  | cons x xs ih => have : (srt (x :: xs)).length ≤ _ := len_insU x (srt xs); simp; omega
/-- A new number put where it belongs. -/
theorem put_lt {l : List Int} {x : Int} {n : Nat} (h : l.Pairwise (· < ·)) (hx : x ∉ l) (hn : n ≤ l.length) (h1 : ∀ (j : Nat) y, n ≤ j → l[j]? = some y → x < y) (h2 : n = 0 ∨ ∃ y, l[n - 1]? = some y ∧ y ≤ x) :
    (l.take n ++ [x] ++ l.drop n).Pairwise (· < ·) ∧ ∀ y, y ∈ l.take n ++ [x] ++ l.drop n ↔ y = x ∨ y ∈ l := by
  have hlow : ∀ y ∈ l.take n, y < x := fun y hy => by
    obtain ⟨j, hj⟩ := List.mem_iff_getElem?.1 hy
    have hjn : j < n := by have := (List.getElem?_eq_some_iff.1 hj).1; simp at this; omega
    rw [List.getElem?_take, if_pos hjn] at hj
    rcases h2 with h2 | ⟨z, hz, hzx⟩
    · omega
    · have hzx' : z < x := by
        have : z ≠ x := fun e => hx (e ▸ List.mem_of_getElem? hz)
        omega
      by_cases hj1 : j = n - 1
      · subst hj1; rw [hz] at hj; cases hj; exact hzx'
      · obtain ⟨a1, a2⟩ := List.getElem?_eq_some_iff.1 hj
        obtain ⟨b1, b2⟩ := List.getElem?_eq_some_iff.1 hz
        have := List.pairwise_iff_getElem.1 h j (n - 1) a1 b1 (by omega)
        omega
  have hhigh : ∀ y ∈ l.drop n, x < y := fun y hy => by
    obtain ⟨j, hj⟩ := List.mem_iff_getElem?.1 hy
    rw [List.getElem?_drop] at hj
    exact h1 _ y (by omega) hj
  constructor
  · rw [List.append_assoc]
    refine List.pairwise_append.2 ⟨h.sublist (List.take_sublist _ _), ?_, fun a ha b hb => ?_⟩
    · refine List.pairwise_append.2 ⟨by simp, h.sublist (List.drop_sublist _ _), fun a ha b hb => ?_⟩
      simp at ha; subst ha; exact hhigh b hb
    · have ha := hlow a ha
      rcases List.mem_append.1 hb with hb | hb
      · simp at hb; subst hb; exact ha
      · have := hhigh b hb; omega
  · intro y
    have e : y ∈ l ↔ y ∈ l.take n ∨ y ∈ l.drop n := by
      rw [← List.mem_append, List.take_append_drop]
    rw [e]
    simp only [List.mem_append, List.mem_singleton]
    constructor
    · rintro ((h | h) | h)
      · exact .inr (.inl h)
      · exact .inl h
      · exact .inr (.inr h)
    · rintro (h | h | h)
      · exact .inl (.inr h)
      · exact .inl (.inl h)
      · exact .inr h
theorem mem_take_succ {α : Type} {l : List α} {i : Nat} {e y : α} (he : l[i]? = some e) : y ∈ l.take (i + 1) ↔ y ∈ l.take i ∨ y = e := by
  have e1 : l.take (i + 1) = l.take i ++ [e] := by rw [List.take_add_one, he]; rfl
  rw [e1]; simp

abbrev Few (n : Nat) : Prop := n ≤ 100000000000
/-! ### the walks -/
end Go.Proofs.Ytanjlgafjgoaaaa
