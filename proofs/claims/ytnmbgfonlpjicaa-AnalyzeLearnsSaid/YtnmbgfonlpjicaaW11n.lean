import Derived.Test.YtnmbgfonlpjicaaW11m
namespace Go.Proofs.Ytnmbgfonlpjicaa
open Go.Mw
set_option linter.unusedVariables false
set_option linter.unusedSimpArgs false
set_option maxRecDepth 100000
attribute [local irreducible] M.val M.unit M.next M.pick M.new M.nilCheck M.load1 M.loadA M.store M.fieldAddr M.indexSl M.indexArr M.slice M.makeSlice M.buildSlice M.len M.lenS M.cap M.append M.extract M.conv M.not M.neg M.bin M.shift M.eqB M.eqNil M.call M.callv M.gd M.share M.cond M.loop M.draw pureW readW Ret
/-! ### what the watches keep, whatever is done: no program here -/
def Tr.Lv (t : Tr) : Prop := ∀ (i : Nat) e, t.L[i]? = some e → 0 ≤ e.lev ∧ e.lev ≤ t.begins.length ∧ ∀ (k : Nat) x, t.begins[k]? = some x → (x ≤ i ↔ (k : Int) < e.lev)
section
variable {t : Tr} {a ls rs : List Int} {s : Wt}
theorem Tr.Lv.push (ok : t.Ok a ls rs) (lv : t.Lv) (l r : Int) : (t.push l r).Lv := by
  intro i e he
  rw [show (t.push l r).begins = t.begins from rfl]
  simp only [Tr.push, List.getElem?_append] at he
  split at he
  · exact lv i e he
  · rename_i hge
    have := (List.getElem?_eq_some_iff.1 he).1
    have hi : i = t.L.length := by simp at this; omega
    subst hi
    simp at he
    subst he
    refine ⟨by simp, by simp [Tr.push], fun k x hx => ?_⟩
    have h1 := ok.beg k x hx
    have h2 := (List.getElem?_eq_some_iff.1 hx).1
    simp
    omega
theorem Tr.Lv.up (ok : t.Ok a ls rs) (lv : t.Lv) : t.up.Lv := by
  intro i e he
  have he : t.L[i]? = some e := he
  obtain ⟨h1, h2, h3⟩ := lv i e he
  refine ⟨h1, by simp [Tr.up]; omega, fun k x hx => ?_⟩
  simp only [Tr.up, List.getElem?_append] at hx
  split at hx
  · exact h3 k x hx
  · rename_i hge
    have := (List.getElem?_eq_some_iff.1 hx).1
    have hk : k = t.begins.length := by simp at this; omega
    subst hk
    simp at hx
    subst hx
    have := (List.getElem?_eq_some_iff.1 he).1
    omega
theorem Tr.Lv.assign (ok : t.Ok a ls rs) (lv : t.Lv) (l r : Int) : (t.assign l r).Lv := by
  unfold Tr.assign
  split
  · exact lv.push ok l r
  · exact lv
theorem Tr.Wf.assign (wf : t.Wf) (l r : Int) : (t.assign l r).Wf := by
  unfold Tr.assign
  split
  · exact Tr.Wf.push (fun x hx => Int.le_of_lt (wf x hx)) l r
  · exact wf
theorem Tr.Lv.dec (ok : t.Ok a ls rs) (wf : t.Wf) (lv : t.Lv) (l : Int) : (t.dec l).Lv := by
  unfold Tr.dec
  split
  · exact (lv.up ok).push (ok.up wf) l (-1)
  · exact lv
theorem Tr.Wf.dec (wf : t.Wf) (l : Int) : (t.dec l).Wf := by
  unfold Tr.dec
  split
  · refine Tr.Wf.push (fun x hx => ?_) l (-1)
    simp only [Tr.up, List.mem_append, List.mem_singleton] at hx
    rcases hx with hx | hx
    · exact Int.le_of_lt (wf x hx)
    · subst hx; exact Int.le_refl _
  · exact wf
theorem Tr.Lv.back (ok : t.Ok a ls rs) (lv : t.Lv) (n : Int) : (t.back n).1.Lv := by
  unfold Tr.back
  split
  · exact lv
  · split
    · exact lv
    · rename_i h0 fr hfr
      have hb := ok.beg _ _ hfr
      intro i e he
      simp only [List.getElem?_take] at he
      split at he
      · rename_i hi
        obtain ⟨h1, h2, h3⟩ := lv i e he
        have h4 := h3 _ _ hfr
        refine ⟨h1, ?_, fun k x hx => ?_⟩
        · simp
          omega
        · simp only [List.getElem?_take] at hx
          split at hx
          · exact h3 k x hx
          · cases hx
      · cases he
theorem Tr.Wf.back (ok : t.Ok a ls rs) (wf : t.Wf) (n : Int) : (t.back n).1.Wf := by
  unfold Tr.back
  split
  · exact wf
  · split
    · exact wf
    · rename_i h0 fr hfr
      have hb := ok.beg _ _ hfr
      intro x hx
      obtain ⟨k, hk⟩ := List.mem_iff_getElem?.1 hx
      simp only [List.getElem?_take] at hk
      split at hk
      · rename_i hkn
        have := ok.mono _ _ _ _ hkn hk hfr
        simp
        omega
      · cases hk

theorem WI.add (wi : WI t s X0) {l : List Int} (hl : ∀ x ∈ l, 0 ≤ x ∧ x < 2 * t.vars) : WI t (s.add l) X0 := by
  obtain ⟨d1, d2, _⟩ := ddp_spec _ l rfl
  refine ⟨wi.vars, wi.byl, fun c hc => ?_, ?_, fun c hc => ?_, fun c hc => ?_, fun c hc hw => ?_, fun c hc hw => ?_, wi.dn⟩
  · show c.n < s.ever + 1
    rcases List.mem_append.1 hc with h | h
    · have := wi.num c h; omega
    · simp only [List.mem_singleton] at h; subst h; simp
  · show ((s.cls ++ [_]).map Wc.n).Nodup
    rw [List.map_append, List.nodup_append]
    refine ⟨wi.nod, by simp, fun x hx y hy => ?_⟩
    obtain ⟨c, hc, rfl⟩ := List.mem_map.1 hx
    simp at hy; subst hy
    have := wi.num c hc; omega
  · rcases List.mem_append.1 hc with h | h
    · exact wi.rng c h
    · simp only [List.mem_singleton] at h; subst h
      exact fun x hx => hl x ((d2 x).1 hx)
  · rcases List.mem_append.1 hc with h | h
    · exact wi.nodl c h
    · simp only [List.mem_singleton] at h; subst h; exact d1
  · show (c.n : Int) ∈ s.whole ++ [(s.ever : Int)]
    rcases List.mem_append.1 hc with h | h
    · exact List.mem_append_left _ (wi.who c h hw)
    · simp only [List.mem_singleton] at h; subst h; simp
  · rcases List.mem_append.1 hc with h | h
    · exact wi.wat c h hw
    · simp only [List.mem_singleton] at h; subst h; cases hw
theorem WI.rem (wi : WI t s X0) (i : Int) : WI t (s.rem i) X0 := by
  have hm : ∀ c ∈ (s.rem i).cls, c ∈ s.cls := fun c hc => (List.mem_filter.1 hc).1
  exact ⟨wi.vars, wi.byl, fun c hc => wi.num c (hm c hc), wi.nod.sublist (List.Sublist.map _ (List.filter_sublist)), fun c hc => wi.rng c (hm c hc), fun c hc => wi.nodl c (hm c hc), fun c hc hw => wi.who c (hm c hc) hw, fun c hc hw => wi.wat c (hm c hc) hw, wi.dn⟩
theorem WI.up (wi : WI t s X0) : WI t.up s X0 := ⟨wi.vars, wi.byl, wi.num, wi.nod, wi.rng, wi.nodl, wi.who, wi.wat, wi.dn⟩
theorem WI.push (wi : WI t s X0) (hf : t.Fine) (l r : Int) (hc0 : 0 ≤ t.count) (hc : t.count ≤ 1000000000000) : WI (t.push l r) s X0 := wi.ext0 (Ext0.push t l r hc0 hc) hf
theorem WI.asg (wi : WI t s X0) (hf : t.Fine) (l r : Int) (hc0 : 0 ≤ t.count) (hc : t.count ≤ 1000000000000) : WI (t.assign l r) s X0 := by
  unfold Tr.assign
  split
  · exact wi.push hf l r hc0 hc
  · exact wi
theorem WI.dec (wi : WI t s X0) (hf : t.up.Fine) (l : Int) (hc0 : 0 ≤ t.count) (hc : t.count ≤ 1000000000000) : WI (t.dec l) s X0 := by
  unfold Tr.dec
  split
  · exact wi.up.push hf l (-1) hc0 hc
  · exact wi
theorem WI.back (wi : WI t s X0) (lv : t.Lv) (n : Int) : WI (t.back n).1 s X0 := by
  unfold Tr.back
  split
  · exact wi
  · split
    · exact wi
    · rename_i h0 fr hfr
      have hsub : ∀ (i : Nat) (e : Ent), (t.L.take fr.toNat)[i]? = some e → i < fr.toNat ∧ t.L[i]? = some e := fun i e h => by
        rw [List.getElem?_take] at h
        split at h
        · exact ⟨by assumption, h⟩
        · cases h
      have hsubb : ∀ (i : Nat) (b : Int), (t.born.take fr.toNat)[i]? = some b → t.born[i]? = some b := fun i e h => by
        rw [List.getElem?_take] at h
        split at h
        · exact h
        · cases h
      have ho : ∀ a b, Okw t s a b → Okw { t with L := t.L.take fr.toNat, born := t.born.take fr.toNat, begins := t.begins.take n.toNat } s a b := fun a b h j e hl he hx => by
        have hl' : Live t s j := fun i hi => by
          obtain ⟨e', b', h1, h2, h3⟩ := hl i hi
          exact ⟨e', b', (hsub i e' h1).2, hsubb i b' h2, h3⟩
        obtain ⟨hj, he'⟩ := hsub j e he
        obtain ⟨f, hf, hfb, hfl⟩ := h j e hl' he' hx
        obtain ⟨i, hi⟩ := List.mem_iff_getElem?.1 hf
        have l1 := (lv j e he').2.2 _ _ hfr
        have l2 := (lv i f hi).2.2 _ _ hfr
        refine ⟨f, ?_, hfb, hfl⟩
        show f ∈ t.L.take fr.toNat
        refine List.mem_of_getElem? (i := i) ?_
        rw [List.getElem?_take, if_pos (by omega)]
        exact hi
      refine ⟨wi.vars, wi.byl, wi.num, wi.nod, wi.rng, wi.nodl, wi.who, fun c hc hw => ?_, wi.dn⟩
      obtain ⟨a, b, r, h1, h2, h3, h4, h5⟩ := wi.wat c hc hw
      exact ⟨a, b, r, h1, h2, h3, ho _ _ h4, ho _ _ h5⟩
end
end Go.Proofs.Ytnmbgfonlpjicaa
