import Derived.Test.YtnmbgfonlpjicaaRef03
namespace Go.Proofs.Ytnmbgfonlpjicaa
open Go.Mw
set_option linter.unusedVariables false
set_option linter.unusedSimpArgs false
/-! ### what follows by clauses of one literal (no program here) -/
/-- x follows: it is one of those that hold, or all others of a clause are false. -/
inductive Fol (l : List (List Int)) (set : List Int) : Int → Prop where
  | base (x : Int) : x ∈ set → ¬ x < 0 → Fol l set x
  | step (c : List Int) (x : Int) : c ∈ l → x ∈ c → ¬ x < 0 → (∀ y ∈ c, ¬ y < 0 → y ≠ x → Fol l set (notOf y)) → Fol l set x
/-- They contradict one another. -/
def Bot (l : List (List Int)) (set : List Int) : Prop := (∃ x, Fol l set x ∧ Fol l set (notOf x)) ∨ ∃ c ∈ l, ∀ y ∈ c, ¬ y < 0 → Fol l set (notOf y)
theorem Fol.nonneg {l : List (List Int)} {set : List Int} {x : Int} (h : Fol l set x) : ¬ x < 0 := by
  cases h with
  | base _ _ h => exact h
  | step _ _ _ _ h _ => exact h
theorem notOf_notOf (x : Int) : notOf (notOf x) = x := by
  unfold notOf flip1
  by_cases h : x < 0
  · simp [h]
  · by_cases h2 : x % 2 = 0
    · have h3 : ¬ x + 1 < 0 := by omega
      have h4 : ¬ (x + 1) % 2 = 0 := by omega
      simp [h, h2, h3, h4]
    · have h3 : ¬ x - 1 < 0 := by omega
      have h4 : (x - 1) % 2 = 0 := by omega
      simp [h, h2, h3, h4]
theorem notOf_ne {x : Int} (h : ¬ x < 0) : notOf x ≠ x := by
  unfold notOf flip1
  rw [if_neg h]
  split <;> omega
theorem notOf_nonneg {x : Int} (h : ¬ x < 0) : ¬ notOf x < 0 := by
  unfold notOf flip1
  rw [if_neg h]
  split <;> omega
/-- What a clause says, where those of s hold. -/
def heldC (s c : List Int) : Bool := c.any (fun x => decide (0 ≤ x) && decide (x ∈ s))
def openC (s c : List Int) : List Int := c.filter (fun x => decide (0 ≤ x) && (decide (x ∉ s) && decide (notOf x ∉ s)))
structure Stp (l : List (List Int)) (set s : List Int) : Prop where
  fol : ∀ x ∈ s, Fol l set x
  has : ∀ x ∈ set, ¬ x < 0 → x ∈ s
  cons : ∀ x ∈ s, notOf x ∉ s
theorem heldC_iff {s c : List Int} : heldC s c = true ↔ ∃ x ∈ c, 0 ≤ x ∧ x ∈ s := by
  simp [heldC, List.any_eq_true]
theorem mem_openC {s c : List Int} {x : Int} : x ∈ openC s c ↔ x ∈ c ∧ 0 ≤ x ∧ x ∉ s ∧ notOf x ∉ s := by
  simp [openC, List.mem_filter]
/-- A clause that does not hold, all whose open literals are one: it follows. -/
theorem Stp.add {l : List (List Int)} {set s c : List Int} {x : Int} (h : Stp l set s) (hc : c ∈ l) (hh : heldC s c = false) (hx : x ∈ openC s c) (ho : ∀ y ∈ openC s c, y = x) : Fol l set x ∧ notOf x ∉ s ∧ x ∉ s ∧ ¬ x < 0 := by
  obtain ⟨h1, h2, h3, h4⟩ := mem_openC.1 hx
  refine ⟨.step c x hc h1 (by omega) (fun y hy hy0 hne => ?_), h4, h3, by omega⟩
  by_cases hn : notOf y ∈ s
  · exact h.fol _ hn
  · exfalso
    by_cases hs : y ∈ s
    · have : heldC s c = true := heldC_iff.2 ⟨y, hy, by omega, hs⟩
      rw [hh] at this; simp at this
    · exact hne (ho y (mem_openC.2 ⟨hy, by omega, hs, hn⟩))
theorem Stp.push {l : List (List Int)} {set s s' : List Int} {x : Int} (h : Stp l set s) (hs : ∀ y, y ∈ s' ↔ y = x ∨ y ∈ s) (hf : Fol l set x) (hn : notOf x ∉ s) : Stp l set s' := by
  refine ⟨fun y hy => ?_, fun y hy hy0 => (hs y).2 (.inr (h.has y hy hy0)), fun y hy hny => ?_⟩
  · rcases (hs y).1 hy with rfl | hy
    · exact hf
    · exact h.fol y hy
  · rcases (hs _).1 hny with e | hny
    · rcases (hs y).1 hy with rfl | hy
      · exact notOf_ne hf.nonneg e
      · exact hn (by rw [← e, notOf_notOf]; exact hy)
    · rcases (hs y).1 hy with rfl | hy
      · exact hn hny
      · exact h.cons y hy hny
/-- A clause that does not hold, and has no open literal: a contradiction. -/
theorem Stp.bot {l : List (List Int)} {set s c : List Int} (h : Stp l set s) (hc : c ∈ l) (hh : heldC s c = false) (ho : openC s c = []) : Bot l set := by
  refine .inr ⟨c, hc, fun y hy hy0 => ?_⟩
  by_cases hn : notOf y ∈ s
  · exact h.fol _ hn
  · exfalso
    by_cases hs : y ∈ s
    · have : heldC s c = true := heldC_iff.2 ⟨y, hy, by omega, hs⟩
      rw [hh] at this; simp at this
    · have : y ∈ openC s c := mem_openC.2 ⟨hy, by omega, hs, hn⟩
      rw [ho] at this; simp at this
/-- Nothing is left to do: it is all that follows, and there is no contradiction. -/
theorem Stp.done {l : List (List Int)} {set s : List Int} (h : Stp l set s) (hd : ∀ c ∈ l, heldC s c = true ∨ ∃ x y, x ∈ openC s c ∧ y ∈ openC s c ∧ x ≠ y) : (∀ x, x ∈ s ↔ Fol l set x) ∧ ¬ Bot l set := by
  have key : ∀ x, Fol l set x → x ∈ s := by
    intro x hx
    induction hx with
    | base x h1 h2 => exact h.has x h1 h2
    | step c x hc hxc hx0 _ ih =>
      rcases hd c hc with hh | ⟨a, b, ha, hb, hab⟩
      · obtain ⟨y, hy, hy0, hys⟩ := heldC_iff.1 hh
        by_cases hyx : y = x
        · exact hyx ▸ hys
        · exact absurd (ih y hy (by omega) hyx) (h.cons y hys)
      · exfalso
        obtain ⟨a1, a2, a3, a4⟩ := mem_openC.1 ha
        obtain ⟨b1, b2, b3, b4⟩ := mem_openC.1 hb
        by_cases hax : a = x
        · exact b4 (ih b b1 (by omega) (fun e => hab (by rw [hax, e])))
        · exact a4 (ih a a1 (by omega) hax)
  refine ⟨fun x => ⟨h.fol x, key x⟩, ?_⟩
  rintro (⟨x, h1, h2⟩ | ⟨c, hc, hall⟩)
  · exact h.cons x (key x h1) (key _ h2)
  · rcases hd c hc with hh | ⟨a, b, ha, _, _⟩
    · obtain ⟨y, hy, hy0, hys⟩ := heldC_iff.1 hh
      exact h.cons y hys (key _ (hall y hy (by omega)))
    · obtain ⟨a1, a2, a3, a4⟩ := mem_openC.1 ha
      exact a4 (key _ (hall a a1 (by omega)))
/-- What Close answers. -/
def CloseR (l : List (List Int)) (set out : List Int) (ok : Bool) : Prop := (ok = false ∧ out = [] ∧ Bot l set) ∨ (ok = true ∧ ¬ Bot l set ∧ out.Pairwise (· < ·) ∧ ∀ y, y ∈ out ↔ Fol l set y)
theorem CloseR.uniq {l : List (List Int)} {set o o' : List Int} {k k' : Bool} (h : CloseR l set o k) (h' : CloseR l set o' k') : o = o' ∧ k = k' := by
  rcases h with ⟨h1, h2, h3⟩ | ⟨h1, h2, h3, h4⟩ <;> rcases h' with ⟨g1, g2, g3⟩ | ⟨g1, g2, g3, g4⟩
  · exact ⟨by rw [h2, g2], by rw [h1, g1]⟩
  · exact absurd h3 g2
  · exact absurd g3 h2
  · exact ⟨lt_ext _ _ h3 g3 (fun y => by rw [h4, g4]), by rw [h1, g1]⟩
theorem CloseR.ok {l : List (List Int)} {set s : List Int} (h : Stp l set s) (hd : ∀ c ∈ l, heldC s c = true ∨ ∃ x y, x ∈ openC s c ∧ y ∈ openC s c ∧ x ≠ y) : CloseR l set (srt s) true := by
  obtain ⟨h1, h2⟩ := h.done hd
  exact .inr ⟨rfl, h2, srt_lt _, fun y => by rw [mem_srt, h1]⟩
theorem CloseR.no {l : List (List Int)} {set : List Int} (h : Bot l set) : CloseR l set [] false := .inl ⟨rfl, rfl, h⟩
/-- All literals there are. -/
def univ (l : List (List Int)) (set : List Int) : List Int := srt (l.flatten ++ set)
theorem fol_univ {l : List (List Int)} {set : List Int} {x : Int} (h : Fol l set x) : x ∈ univ l set := by
  unfold univ
  rw [mem_srt, List.mem_append]
  cases h with
  | base _ h1 _ => exact .inr h1
  | step c _ h1 h2 _ _ => exact .inl (List.mem_flatten.2 ⟨c, h1, h2⟩)
def leftU (l : List (List Int)) (set s : List Int) : Nat := ((univ l set).filter (fun x => decide (x ∉ s))).length
theorem leftU_lt {l : List (List Int)} {set s s' : List Int} {x : Int} (hx : x ∈ univ l set) (hn : x ∉ s) (hs : ∀ y, y ∈ s' ↔ y = x ∨ y ∈ s) : leftU l set s' < leftU l set s := by
  unfold leftU
  generalize univ l set = u at hx ⊢
  induction u with
  | nil => simp at hx
  | cons a u ih =>
    have sub : ∀ u : List Int, (u.filter (fun x => decide (x ∉ s'))).length ≤ (u.filter (fun x => decide (x ∉ s))).length := by
      intro u
      induction u with
      | nil => simp
      | cons b u ih =>
        simp only [List.filter_cons]
        by_cases h1 : b ∈ s
        · have h2 : b ∈ s' := (hs b).2 (.inr h1)
          simpa [h1, h2] using ih
        · by_cases h2 : b ∈ s'
          · simp [h1, h2]; have := ih; simp at this; omega
          · simp [h1, h2]; have := ih; simp at this; omega
    simp only [List.filter_cons]
    rcases List.mem_cons.1 hx with rfl | hx
    · have h2 : x ∈ s' := (hs x).2 (.inl rfl)
      simp only [h2, hn, not_true_eq_false, decide_false, not_false_eq_true, decide_true, if_true, if_false, List.length_cons]
      have := sub u
      simp at this ⊢
      omega
    · have := ih hx
      by_cases h1 : a ∈ s
      · have h2 : a ∈ s' := (hs a).2 (.inr h1)
        simp [h1, h2]; simpa using this
      · by_cases h2 : a ∈ s'
        · simp [h1, h2]; simp at this; omega
        · simp [h1, h2]; simp at this; omega
theorem stp_start {l : List (List Int)} {set s : List Int} (hs : ∀ y, y ∈ s ↔ y ∈ set ∧ ¬ y < 0) (hc : ∀ x ∈ s, notOf x ∉ s) : Stp l set s :=
  ⟨fun x hx => .base x ((hs x).1 hx).1 ((hs x).1 hx).2, fun x h1 h2 => (hs x).2 ⟨h1, h2⟩, hc⟩
theorem bot_start {l : List (List Int)} {set : List Int} {x : Int} (h1 : x ∈ set) (h2 : notOf x ∈ set) (h0 : ¬ x < 0) : Bot l set := .inl ⟨x, .base x h1 h0, .base _ h2 (notOf_nonneg h0)⟩
end Go.Proofs.Ytnmbgfonlpjicaa
