import Derived.Test.YtnkechekdncnlaaW11o
namespace Go.Proofs.Ytnkechekdncnlaa
open Go.Mw
set_option linter.unusedVariables false
set_option linter.unusedSimpArgs false
set_option maxRecDepth 100000
attribute [local irreducible] M.val M.unit M.next M.pick M.new M.nilCheck M.load1 M.loadA M.store M.fieldAddr M.indexSl M.indexArr M.slice M.makeSlice M.buildSlice M.len M.lenS M.cap M.append M.extract M.conv M.not M.neg M.bin M.shift M.eqB M.eqNil M.call M.callv M.gd M.share M.cond M.loop M.draw pureW readW Ret
/-! ### the chapter's example: no program here -/
def Cl2 (cls : List Wc) : Prop := ∀ c ∈ cls, (c.n = 0 ∧ c.lits.Perm [1, 2]) ∨ (c.n = 1 ∧ c.lits.Perm [3, 4])
theorem awk_lits {t : Tr} {cls : List Wc} {new : List Ent} (hL : t.L = [⟨0, 0, -1⟩] ++ new) (hr : ∀ e ∈ new, 0 ≤ e.rea) (ri : RI t cls) (hc : Cl2 cls) :
    ∀ (n i : Nat) (e : Ent), i < n → t.L[i]? = some e → e.lit = 0 ∨ (e.lit = 2 ∧ e.rea = 0) ∨ (e.lit = 4 ∧ e.rea = 1)
  | 0, i, e, hi, _ => by omega
  | n + 1, i, e, hi, he => by
    have ih := awk_lits hL hr ri hc n
    rcases Nat.eq_zero_or_pos i with h0 | h0
    · subst h0
      rw [hL] at he
      simp at he
      subst he
      exact .inl rfl
    · have hm : e ∈ new := by
        rw [hL, List.getElem?_append_right (by simp; omega)] at he
        exact List.mem_of_getElem? he
      obtain ⟨c, hcm, h1, h2, h3⟩ := ri i e he (hr e hm)
      have no : ∀ (j : Nat) (f : Ent), j < i → t.L[j]? = some f → f.lit ≠ 3 ∧ f.lit ≠ 5 := fun j f hj hf => by
        rcases ih j f (by omega) hf with h | ⟨h, _⟩ | ⟨h, _⟩ <;> omega
      rcases hc c hcm with ⟨hn, hp⟩ | ⟨hn, hp⟩
      · have hm2 := hp.mem_iff.1 h2
        simp only [List.mem_cons, List.not_mem_nil, or_false] at hm2
        rcases hm2 with e1 | e1
        · obtain ⟨j, f, hj, hf, hfl⟩ := h3 2 (hp.mem_iff.2 (by simp)) (by omega)
          have := (no j f hj hf).1
          exact absurd hfl this
        · exact .inr (.inl ⟨e1, by omega⟩)
      · have hm2 := hp.mem_iff.1 h2
        simp only [List.mem_cons, List.not_mem_nil, or_false] at hm2
        rcases hm2 with e1 | e1
        · obtain ⟨j, f, hj, hf, hfl⟩ := h3 4 (hp.mem_iff.2 (by simp)) (by omega)
          have := (no j f hj hf).2
          exact absurd hfl this
        · exact .inr (.inr ⟨e1, by omega⟩)
/-- Behind the first Run. -/
theorem awk_run {t : Tr} {cls : List Wc} {new : List Ent} (hf : t.Fine) (hL : t.L = [⟨0, 0, -1⟩] ++ new) (hr : ∀ e ∈ new, 0 ≤ e.rea) (ri : RI t cls) (hc : Cl2 cls) (h0 : ∃ c ∈ cls, c.n = 0) (h1 : ∃ c ∈ cls, c.n = 1) {i : Int} {ok : Bool}
    (out : (ok = true ∧ i = -1 ∧ ∀ c ∈ cls, Shut t c) ∨ (ok = false ∧ ∃ c ∈ cls, (c.n : Int) = i ∧ ∀ x ∈ c.lits, t.val x < 0)) :
    ok = true ∧ i = -1 ∧ t.has 0 ∧ t.has 2 ∧ t.has 4 ∧ srt (t.L.map (·.lit)) = [0, 2, 4] ∧ t.rea 2 = 1 := by
  have key : ∀ e ∈ t.L, e.lit = 0 ∨ (e.lit = 2 ∧ e.rea = 0) ∨ (e.lit = 4 ∧ e.rea = 1) := fun e he => by
    obtain ⟨j, hj⟩ := List.mem_iff_getElem?.1 he
    exact awk_lits hL hr ri hc (j + 1) j e (by omega) hj
  have nohas : ∀ x : Int, x ≠ 0 → x ≠ 2 → x ≠ 4 → ¬ t.has x := fun x a b c ⟨e, he, hx⟩ => by
    rcases key e he with h | ⟨h, _⟩ | ⟨h, _⟩ <;> omega
  have has0 : t.has 0 := ⟨⟨0, 0, -1⟩, by rw [hL]; simp, rfl⟩
  have n2 : ¬ t.val 2 < 0 := fun h => nohas 3 (by omega) (by omega) (by omega) ((hf.val_neg (x := 2) (by omega)).1 h)
  have n4 : ¬ t.val 4 < 0 := fun h => nohas 5 (by omega) (by omega) (by omega) ((hf.val_neg (x := 4) (by omega)).1 h)
  rcases out with ⟨e1, e2, hs⟩ | ⟨_, c, hcm, _, hneg⟩
  rotate_left
  · rcases hc c hcm with ⟨_, hp⟩ | ⟨_, hp⟩
    · exact absurd (hneg 2 (hp.mem_iff.2 (by simp))) n2
    · exact absurd (hneg 4 (hp.mem_iff.2 (by simp))) n4
  have p2 : t.has 2 := by
    obtain ⟨c, hcm, hn⟩ := h0
    have hp : c.lits.Perm [1, 2] := by
      rcases hc c hcm with ⟨_, hp⟩ | ⟨hn', _⟩
      · exact hp
      · omega
    have v1 : t.val 1 < 0 := (hf.val_neg (x := 1) (by omega)).2 has0
    rcases hs c hcm with ⟨x, hx, hh⟩ | ⟨a, b, r, hab, ha, hb⟩
    · have := hp.mem_iff.1 hx
      simp only [List.mem_cons, List.not_mem_nil, or_false] at this
      rcases this with e | e
      · subst e; exact absurd hh (nohas 1 (by omega) (by omega) (by omega))
      · subst e; exact hh
    · exfalso
      have hma := hp.mem_iff.1 (show a ∈ c.lits by rw [hab]; simp)
      have hmb := hp.mem_iff.1 (show b ∈ c.lits by rw [hab]; simp)
      have hnd := hp.nodup_iff.2 (by decide)
      rw [hab] at hnd
      simp only [List.nodup_cons, List.mem_cons, not_or] at hnd
      simp only [List.mem_cons, List.not_mem_nil, or_false] at hma hmb
      rcases hma with e | e
      · subst e; omega
      · rcases hmb with e' | e'
        · subst e'; omega
        · subst e; subst e'; exact hnd.1.1 rfl
  have p4 : t.has 4 := by
    obtain ⟨c, hcm, hn⟩ := h1
    have hp : c.lits.Perm [3, 4] := by
      rcases hc c hcm with ⟨hn', _⟩ | ⟨_, hp⟩
      · omega
      · exact hp
    have v3 : t.val 3 < 0 := (hf.val_neg (x := 3) (by omega)).2 p2
    rcases hs c hcm with ⟨x, hx, hh⟩ | ⟨a, b, r, hab, ha, hb⟩
    · have := hp.mem_iff.1 hx
      simp only [List.mem_cons, List.not_mem_nil, or_false] at this
      rcases this with e | e
      · subst e; exact absurd hh (nohas 3 (by omega) (by omega) (by omega))
      · subst e; exact hh
    · exfalso
      have hma := hp.mem_iff.1 (show a ∈ c.lits by rw [hab]; simp)
      have hmb := hp.mem_iff.1 (show b ∈ c.lits by rw [hab]; simp)
      have hnd := hp.nodup_iff.2 (by decide)
      rw [hab] at hnd
      simp only [List.nodup_cons, List.mem_cons, not_or] at hnd
      simp only [List.mem_cons, List.not_mem_nil, or_false] at hma hmb
      rcases hma with e | e
      · subst e; omega
      · rcases hmb with e' | e'
        · subst e'; omega
        · subst e; subst e'; exact hnd.1.1 rfl
  refine ⟨e1, e2, has0, p2, p4, ?_, ?_⟩
  · symm
    refine eq_srt (by decide) (fun y => ?_)
    simp only [List.mem_cons, List.not_mem_nil, or_false, List.mem_map]
    constructor
    · rintro (h | h | h)
      · subst h; exact has0
      · subst h; exact p2
      · subst h; exact p4
    · rintro ⟨e, he, rfl⟩
      rcases key e he with h | ⟨h, _⟩ | ⟨h, _⟩ <;> omega
  · obtain ⟨e, he, hx⟩ := p4
    obtain ⟨j, hj⟩ := List.mem_iff_getElem?.1 he
    have h4 := hf.rea hj
    rw [hx] at h4
    have e4 : (4 : Int) / 2 = 2 := by decide
    rw [e4] at h4
    rw [h4]
    rcases key e he with h | ⟨h, _⟩ | ⟨_, h⟩
    · omega
    · omega
    · exact h
end Go.Proofs.Ytnkechekdncnlaa
