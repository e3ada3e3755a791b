import Derived.Test.YtnmbgfonlpjicaaW11g
namespace Go.Proofs.Ytnmbgfonlpjicaa
open Go.Mw
set_option linter.unusedVariables false
set_option linter.unusedSimpArgs false
set_option maxRecDepth 100000
attribute [local irreducible] M.val M.unit M.next M.pick M.new M.nilCheck M.load1 M.loadA M.store M.fieldAddr M.indexSl M.indexArr M.slice M.makeSlice M.buildSlice M.len M.lenS M.cap M.append M.extract M.conv M.not M.neg M.bin M.shift M.eqB M.eqNil M.call M.callv M.gd M.share M.cond M.loop M.draw pureW readW Ret
/-! ### run: no program here -/
def Full (t : Tr) (s : Wt) : Prop := ∀ j, j < s.done.length → Mch t s j
section
variable {t t' t2 : Tr} {s s' s2 : Wt}
theorem Full.le (h : Full t s) : s.done.length ≤ t.L.length := by
  rcases Nat.eq_zero_or_pos s.done.length with e | e
  · omega
  · obtain ⟨e0, b, h1, _, _⟩ := h (s.done.length - 1) (by omega)
    have := (List.getElem?_eq_some_iff.1 h1).1
    omega
theorem Full.ext {new : List Ent} {nb : List Int} (h : Ext t t' new nb) (hf : Full t s) : Full t' s := by
  intro j hj
  obtain ⟨e, b, h1, h2, h3⟩ := hf j hj
  have l1 := (List.getElem?_eq_some_iff.1 h1).1
  have l2 := (List.getElem?_eq_some_iff.1 h2).1
  exact ⟨e, b, by rw [h.L, List.getElem?_append_left l1]; exact h1, by rw [h.born, List.getElem?_append_left l2]; exact h2, h3⟩
theorem Full.live (h : Full t s) {j : Nat} (hj : j < s.done.length) : Live t s j := fun i hi => h i (by omega)
theorem Live.sub {d2 : List Hd} (hd : ∀ (i : Nat) d, d2[i]? = some d → s.done[i]? = some d) {j : Nat} (h : Live t { s with done := d2 } j) : Live t s j := fun i hi => by
  obtain ⟨e, b, h1, h2, h3⟩ := h i hi
  exact ⟨e, b, h1, h2, hd i _ h3⟩
theorem WI.cut {n : Nat} (wi : WI t s X0) : WI t { s with done := s.done.take n } X0 := by
  have hd : ∀ (i : Nat) d, (s.done.take n)[i]? = some d → s.done[i]? = some d := fun i d h => by
    rw [List.getElem?_take] at h
    split at h
    · exact h
    · cases h
  have ho : ∀ a b, Okw t s a b → Okw t { s with done := s.done.take n } a b := fun a b h j e hl he hx => h j e (Live.sub hd hl) he hx
  refine ⟨wi.vars, wi.byl, wi.num, wi.nod, wi.rng, wi.nodl, wi.who, fun c hc hw => ?_, fun d h => wi.dn d (List.mem_of_mem_take h)⟩
  obtain ⟨a, b, r, h1, h2, h3, h4, h5⟩ := wi.wat c hc hw
  exact ⟨a, b, r, h1, h2, h3, ho _ _ h4, ho _ _ h5⟩
theorem Full.cut {n : Nat} (h : ∀ j, j < n → Mch t s j) : Full t { s with done := s.done.take n } := by
  intro j hj
  have hj' : j < n := by
    have : (s.done.take n).length ≤ n := List.length_take_le _ _
    have hj : j < (s.done.take n).length := hj
    omega
  obtain ⟨e, b, h1, h2, h3⟩ := h j hj'
  exact ⟨e, b, h1, h2, by show (s.done.take n)[j]? = _; rw [List.getElem?_take, if_pos hj']; exact h3⟩
/-- One more was looked at. -/
theorem WI.more (wi : WI t s X0) (hf : t.Fine) (hfu : Full t s) {e0 : Ent} {b0 : Int} (he : t.L[s.done.length]? = some e0) (hb : t.born[s.done.length]? = some b0) (hbc : b0 ≤ t.count) {x : Int} (hx : 0 ≤ x) (hex : e0.lit = notOf x)
    (hp : ∀ c ∈ s.cls, c.whole = false → ∀ a b r, c.lits = a :: b :: r → (a = x → Tru t e0 b) ∧ (b = x → Tru t e0 a)) :
    WI t { s with done := s.done ++ [⟨e0.lit, b0⟩] } X0 ∧ Full t { s with done := s.done ++ [⟨e0.lit, b0⟩] } := by
  have ho : ∀ a b, 0 ≤ a → Okw t s a b → (a = x → Tru t e0 b) → Okw t { s with done := s.done ++ [⟨e0.lit, b0⟩] } a b := fun a b ha h h2 j e hl hje hxa => by
    by_cases hj : j < s.done.length
    · exact h j e (hfu.live hj) hje hxa
    · obtain ⟨_, _, _, _, h3⟩ := hl j (Nat.le_refl _)
      have h3 := (List.getElem?_eq_some_iff.1 h3).1
      have h3 : j < (s.done ++ [(⟨e0.lit, b0⟩ : Hd)]).length := h3
      rw [List.length_append, List.length_singleton] at h3
      have : j = s.done.length := by omega
      subst this
      rw [he] at hje
      cases hje
      refine h2 ?_
      have n1 := notOf_nn ha
      have n2 := notOf_nn hx
      rw [hxa] at hex
      rw [← n1.2.2.2, ← n2.2.2.2, hex]
  refine ⟨⟨wi.vars, wi.byl, wi.num, wi.nod, wi.rng, wi.nodl, wi.who, fun c hc hw => ?_, fun d hd => ?_⟩, fun j hj => ?_⟩
  · obtain ⟨a, b, r, h1, h2, h3, h4, h5⟩ := wi.wat c hc hw
    have hr := wi.rng c hc
    rw [h1] at hr
    obtain ⟨p1, p2⟩ := hp c hc hw a b r h1
    exact ⟨a, b, r, h1, h2, h3, ho a b (hr a (by simp)).1 h4 p1, ho b a (hr b (by simp)).1 h5 p2⟩
  · rcases List.mem_append.1 hd with h | h
    · exact wi.dn d h
    · simp only [List.mem_singleton] at h
      subst h; exact hbc
  · have hj : j < (s.done ++ [(⟨e0.lit, b0⟩ : Hd)]).length := hj
    rw [List.length_append, List.length_singleton] at hj
    by_cases hlt : j < s.done.length
    · obtain ⟨e, b, h1, h2, h3⟩ := hfu j hlt
      exact ⟨e, b, h1, h2, by show (s.done ++ [_])[j]? = _; rw [List.getElem?_append_left hlt]; exact h3⟩
    · have : j = s.done.length := by omega
      subst this
      exact ⟨e0, b0, he, hb, by show (s.done ++ [_])[s.done.length]? = _; rw [List.getElem?_append_right (Nat.le_refl _), Nat.sub_self]; rfl⟩
def Shut (t : Tr) (c : Wc) : Prop := (∃ x ∈ c.lits, t.has x) ∨ ∃ a b r, c.lits = a :: b :: r ∧ 0 ≤ t.val a ∧ 0 ≤ t.val b
structure RunR (t : Tr) (s : Wt) (t' : Tr) (s' : Wt) (i : Int) (ok : Bool) : Prop where
  ext : ∃ new nb, Ext t t' new nb
  ceq : CEq s.cls s'.cls
  wi : WI t' s' X0
  ri : RI t' s'.cls
  ev : s'.ever = s.ever
  sz : s'.sz ≤ s.sz + (2 * t.vars + 1) * s.cls.length
  out : (ok = true ∧ i = -1 ∧ ∀ c ∈ s'.cls, Shut t' c) ∨ (ok = false ∧ ∃ c ∈ s'.cls, (c.n : Int) = i ∧ ∀ x ∈ c.lits, t'.val x < 0)
structure RuI (t : Tr) (s : Wt) (t' : Tr) (s' : Wt) : Prop where
  ext : ∃ new nb, Ext t t' new nb
  ceq : CEq s.cls s'.cls
  wi : WI t' s' X0
  ri : RI t' s'.cls
  ev : s'.ever = s.ever
  full : Full t' s'
theorem shut_of (wi : WI t s X0) (hf : t.Fine) (hfu : Full t s) (hl : s.done.length = t.L.length) (hw : ∀ c ∈ s.cls, c.whole = true → ∃ x ∈ c.lits, t.has x) : ∀ c ∈ s.cls, Shut t c := by
  intro c hc
  cases hcw : c.whole with
  | true => exact .inl (hw c hc hcw)
  | false =>
    obtain ⟨a, b, r, h1, h2, h3, h4, h5⟩ := wi.wat c hc hcw
    have hr := wi.rng c hc
    rw [h1] at hr
    have key : ∀ a b : Int, 0 ≤ a → Okw t s a b → t.val a < 0 → t.has b := fun a b ha ho hv => by
      obtain ⟨e, he, hex⟩ := (hf.val_neg ha).1 hv
      obtain ⟨j, hj⟩ := List.mem_iff_getElem?.1 he
      have hjl := (List.getElem?_eq_some_iff.1 hj).1
      obtain ⟨f, f1, f2, _⟩ := ho j e (hfu.live (by omega)) hj hex
      exact ⟨f, f1, f2⟩
    by_cases ha : t.val a < 0
    · exact .inl ⟨b, by rw [h1]; simp, key a b (hr a (by simp)).1 h4 ha⟩
    · by_cases hb : t.val b < 0
      · exact .inl ⟨a, by rw [h1]; simp, key b a (hr b (by simp)).1 h5 hb⟩
      · exact .inr ⟨a, b, r, h1, by omega, by omega⟩
end
end Go.Proofs.Ytnmbgfonlpjicaa
