import Derived.Test.YtfkbacoiocniaaaUnit06P
namespace Go.Proofs.Ytfkbacoiocniaaa
open Go.Mw
set_option linter.unusedVariables false
set_option linter.unusedSimpArgs false
/-! ### plain laws of what follows -/
theorem Fol.mono {l l' : List (List Int)} {set set' : List Int} {x : Int} (h : Fol l set x) (hl : ∀ c ∈ l, c ∈ l') (hs : ∀ x ∈ set, ¬ x < 0 → Fol l' set' x) : Fol l' set' x := by
  induction h with
  | base x h1 h2 => exact hs x h1 h2
  | step c x h1 h2 h3 _ ih => exact .step c x (hl c h1) h2 h3 ih
theorem Bot.mono {l l' : List (List Int)} {set set' : List Int} (h : Bot l set) (hl : ∀ c ∈ l, c ∈ l') (hs : ∀ x ∈ set, ¬ x < 0 → Fol l' set' x) : Bot l' set' := by
  rcases h with ⟨x, h1, h2⟩ | ⟨c, h1, h2⟩
  · exact .inl ⟨x, h1.mono hl hs, h2.mono hl hs⟩
  · exact .inr ⟨c, hl c h1, fun y hy h0 => (h2 y hy h0).mono hl hs⟩
/-- What follows from all that follows is that. -/
theorem close_again {l : List (List Int)} {set out : List Int} (h : CloseR l set out true) : CloseR l out out true := by
  rcases h with ⟨h1, _⟩ | ⟨_, h2, h3, h4⟩
  · simp at h1
  · have hb : ∀ x ∈ out, ¬ x < 0 → Fol l set x := fun x hx _ => (h4 x).1 hx
    refine .inr ⟨rfl, fun hbot => h2 (hbot.mono (fun _ h => h) hb), h3, fun y => ⟨fun hy => .base y hy ((h4 y).1 hy).nonneg, fun hy => (h4 y).2 (hy.mono (fun _ h => h) hb)⟩⟩
theorem close_more {l more : List (List Int)} {set a b : List Int} {ok is : Bool} (h : CloseR l set a ok) (h' : CloseR (l ++ more) set b is) : (ok = false → is = false ∧ a = []) ∧ (ok = true → is = true → ∀ x ∈ a, x ∈ b) := by
  have hb : ∀ x ∈ set, ¬ x < 0 → Fol (l ++ more) set x := fun x h1 h2 => .base x h1 h2
  have hl : ∀ c ∈ l, c ∈ l ++ more := fun c hc => List.mem_append_left _ hc
  rcases h with ⟨rfl, h2, h3⟩ | ⟨rfl, h2, h3, h4⟩
  · refine ⟨fun _ => ⟨?_, h2⟩, fun h => by simp at h⟩
    rcases h' with ⟨rfl, _⟩ | ⟨_, g2, _⟩
    · rfl
    · exact absurd (h3.mono hl hb) g2
  · refine ⟨fun h => by simp at h, fun _ his x hx => ?_⟩
    subst his
    rcases h' with ⟨g1, _⟩ | ⟨_, _, _, g4⟩
    · simp at g1
    · exact (g4 x).2 (((h4 x).1 hx).mono hl hb)
theorem holds_notOf {m : List Bool} {y : Int} (h : ¬ y < 0) : holdsL m (notOf y) = !holdsL m y := by
  have e : notOf y / 2 = y / 2 ∧ ¬ notOf y < 0 ∧ negOf (notOf y) = !negOf y := by
    unfold notOf flip1 negOf
    rw [if_neg h]
    by_cases h2 : y % 2 = 0
    · rw [if_pos h2]
      have h3 : (y + 1) % 2 = 1 := by omega
      have h4 : 0 ≤ y + 1 := by omega
      have h5 : ¬ (y % 2 = 1) := by omega
      exact ⟨by omega, by omega, by simp [h3, h4, h5]⟩
    · rw [if_neg h2]
      have h3 : ¬ (y - 1) % 2 = 1 := by omega
      have h5 : y % 2 = 1 := by omega
      have h6 : 0 ≤ y := by omega
      exact ⟨by omega, by omega, by simp [h3, h5, h6]⟩
  obtain ⟨e1, e2, e3⟩ := e
  unfold holdsL
  rw [if_neg h, if_neg e2, e1, e3]
  cases truth m (y / 2) <;> cases negOf y <;> rfl
theorem holds_nonneg {m : List Bool} {y : Int} (h : holdsL m y = true) : ¬ y < 0 := by
  intro h0
  unfold holdsL at h
  rw [if_pos h0] at h
  simp at h
theorem fol_holds {l : List (List Int)} {set : List Int} {m : List Bool} (hl : ∀ c ∈ l, c.any (holdsL m) = true) (hs : ∀ x ∈ set, holdsL m x = true) {x : Int} (h : Fol l set x) : holdsL m x = true := by
  induction h with
  | base x h1 _ => exact hs x h1
  | step c x h1 h2 h3 _ ih =>
    obtain ⟨y, hy, hm⟩ := List.any_eq_true.1 (hl c h1)
    by_cases hyx : y = x
    · exact hyx ▸ hm
    · have h0 := holds_nonneg hm
      have := ih y hy h0 hyx
      rw [holds_notOf h0, hm] at this
      simp at this
theorem close_sound {l : List (List Int)} {set out : List Int} {ok : Bool} {m : List Bool} (h : CloseR l set out ok) (hl : ∀ c ∈ l, c.any (holdsL m) = true) (hs : ∀ x ∈ set, holdsL m x = true) : ok = true ∧ ∀ x ∈ out, holdsL m x = true := by
  have nb : ¬ Bot l set := by
    rintro (⟨x, h1, h2⟩ | ⟨c, h1, h2⟩)
    · have a := fol_holds hl hs h1
      have b := fol_holds hl hs h2
      rw [holds_notOf h1.nonneg, a] at b
      simp at b
    · obtain ⟨y, hy, hm⟩ := List.any_eq_true.1 (hl c h1)
      have h0 := holds_nonneg hm
      have b := fol_holds hl hs (h2 y hy h0)
      rw [holds_notOf h0, hm] at b
      simp at b
  rcases h with ⟨_, _, h3⟩ | ⟨h1, _, _, h4⟩
  · exact absurd h3 nb
  · exact ⟨h1, fun x hx => fol_holds hl hs ((h4 x).1 hx)⟩
/-! ### of given lists: by computing -/
def derivB (l : List (List Int)) (set : List Int) : List Int → List Int → Bool
  | _, [] => true
  | s, x :: r => decide (¬ x < 0) && (decide (x ∈ set) || l.any (fun c => decide (x ∈ c) && c.all (fun y => decide (y < 0) || (decide (y = x) || decide (notOf y ∈ s))))) && derivB l set (x :: s) r
theorem derivB_fol {l : List (List Int)} {set : List Int} : ∀ (r s : List Int), derivB l set s r = true → (∀ x ∈ s, Fol l set x) → ∀ x ∈ r, Fol l set x
  | [], _, _, _, _, hx => by simp at hx
  | x :: r, s, h, hs, y, hy => by
    simp only [derivB, Bool.and_eq_true, Bool.or_eq_true, decide_eq_true_eq] at h
    obtain ⟨⟨h0, h1⟩, h2⟩ := h
    have hf : Fol l set x := by
      rcases h1 with h1 | h1
      · exact .base x h1 h0
      · obtain ⟨c, hc, h1⟩ := List.any_eq_true.1 h1
        simp only [Bool.and_eq_true, decide_eq_true_eq, List.all_eq_true, Bool.or_eq_true] at h1
        refine .step c x hc h1.1 h0 (fun y hy hy0 hyx => ?_)
        rcases h1.2 y hy with h | h | h
        · exact absurd h hy0
        · exact absurd h hyx
        · exact hs _ h
    rcases List.mem_cons.1 hy with rfl | hy
    · exact hf
    · exact derivB_fol r (x :: s) h2 (fun z hz => by
        rcases List.mem_cons.1 hz with rfl | hz
        · exact hf
        · exact hs z hz) y hy
def doneB (l : List (List Int)) (set s : List Int) : Bool := set.all (fun x => decide (x < 0) || decide (x ∈ s)) && (s.all (fun x => decide (notOf x ∉ s)) && l.all (fun c => heldC s c || (openC s c).any (fun x => (openC s c).any (fun y => decide (x ≠ y)))))
theorem closeB {l : List (List Int)} {set s : List Int} (h1 : derivB l set [] s = true) (h2 : doneB l set s = true) : CloseR l set (srt s) true := by
  simp only [doneB, Bool.and_eq_true, List.all_eq_true, Bool.or_eq_true, decide_eq_true_eq] at h2
  obtain ⟨a, b, c⟩ := h2
  refine CloseR.ok ⟨derivB_fol s [] h1 (by simp), fun x hx h0 => ?_, b⟩ (fun d hd => ?_)
  · rcases a x hx with h | h
    · exact absurd h h0
    · exact h
  · rcases c d hd with h | h
    · exact .inl h
    · obtain ⟨x, hx, h⟩ := List.any_eq_true.1 h
      obtain ⟨y, hy, h⟩ := List.any_eq_true.1 h
      exact .inr ⟨x, y, hx, hy, by simpa using h⟩
theorem botB {l : List (List Int)} {set s : List Int} (h1 : derivB l set [] s = true) (h2 : l.any (fun c => c.all (fun y => decide (y < 0) || decide (notOf y ∈ s))) = true) : CloseR l set [] false := by
  obtain ⟨c, hc, h⟩ := List.any_eq_true.1 h2
  refine CloseR.no (.inr ⟨c, hc, fun y hy hy0 => ?_⟩)
  have := List.all_eq_true.1 h y hy
  simp only [Bool.or_eq_true, decide_eq_true_eq] at this
  rcases this with h | h
  · exact absurd h hy0
  · exact derivB_fol s [] h1 (by simp) _ h
end Go.Proofs.Ytfkbacoiocniaaa
