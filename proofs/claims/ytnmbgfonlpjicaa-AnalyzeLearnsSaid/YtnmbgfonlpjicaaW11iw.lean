import Derived.Test.YtnmbgfonlpjicaaW11n
namespace Go.Proofs.Ytnmbgfonlpjicaa
open Go.Mw
set_option linter.unusedVariables false
set_option linter.unusedSimpArgs false
set_option maxRecDepth 100000
attribute [local irreducible] M.val M.unit M.next M.pick M.new M.nilCheck M.load1 M.loadA M.store M.fieldAddr M.indexSl M.indexArr M.slice M.makeSlice M.buildSlice M.len M.lenS M.cap M.append M.extract M.conv M.not M.neg M.bin M.shift M.eqB M.eqNil M.call M.callv M.gd M.share M.cond M.loop M.draw pureW readW Ret
/-! ### what is kept through all deeds: no program here -/
structure Inv (t : Tr) (s : Wt) (a b c : Nat) : Prop where
  wi : WI t s X0
  ri : RI t s.cls
  bi : ∀ b ∈ t.born, b ≤ t.count
  c0 : 0 ≤ t.count
  lv : t.Lv
  wf : t.Wf
  cc : t.count ≤ a
  sz : s.sz ≤ b
  ev : s.ever ≤ c
  cl : ∀ c ∈ s.cls, c.lits.length ≤ 40
  vars : t.vars ≤ 40
def firstD (l : List Int) : Int := l.headD (-1)
def usedB (t : Tr) (n : Int) : Bool := t.L.any (fun e => decide (t.rea (e.lit / 2) = n))
section
variable {t t' : Tr} {s s' : Wt} {a b c : Nat}
theorem Inv.mono {a' b' c' : Nat} (h : Inv t s a b c) (h1 : a ≤ a') (h2 : b ≤ b') (h3 : c ≤ c') : Inv t s a' b' c' :=
  ⟨h.wi, h.ri, h.bi, h.c0, h.lv, h.wf, by have := h.cc; omega, Nat.le_trans h.sz h2, Nat.le_trans h.ev h3, h.cl, h.vars⟩
theorem Inv.len (h : Inv t s a b c) : s.cls.length ≤ c := by
  have := nodup_le s.ever (s.cls.map Wc.n) h.wi.nod (fun x hx => by
    obtain ⟨d, hd, rfl⟩ := List.mem_map.1 hx
    exact h.wi.num d hd)
  rw [List.length_map] at this
  exact Nat.le_trans this h.ev
theorem Inv.add (h : Inv t s a b c) {l : List Int} (hl : ∀ x ∈ l, 0 ≤ x ∧ x < 2 * s.vars) (hn : l.length ≤ 40) : Inv t (s.add l) a (b + 1) (c + 1) := by
  refine ⟨h.wi.add (by rw [← h.wi.vars]; exact hl), fun i e he hr => ?_, h.bi, h.c0, h.lv, h.wf, h.cc, ?_, ?_, fun d hd => ?_, h.vars⟩
  · obtain ⟨d, hd, h1⟩ := h.ri i e he hr
    exact ⟨d, List.mem_append_left _ hd, h1⟩
  · have := h.sz
    have e1 : (s.add l).sz = s.sz + 1 := by simp [Wt.sz, Wt.add]; omega
    omega
  · have := h.ev
    show s.ever + 1 ≤ _
    omega
  · rcases List.mem_append.1 hd with hd | hd
    · exact h.cl d hd
    · simp only [List.mem_singleton] at hd
      subst hd
      exact Nat.le_trans (ddp_spec _ l rfl).2.2 hn
theorem Inv.rem (h : Inv t s a b c) (hf : t.Fine) {n : Int} (hu : usedB t n = false) : Inv t (s.rem n) a b c := by
  refine ⟨h.wi.rem n, fun i e he hr => ?_, h.bi, h.c0, h.lv, h.wf, h.cc, h.sz, h.ev, fun d hd => h.cl d (List.mem_filter.1 hd).1, h.vars⟩
  obtain ⟨d, hd, h1, h2⟩ := h.ri i e he hr
  refine ⟨d, List.mem_filter.2 ⟨hd, ?_⟩, h1, h2⟩
  have := List.any_eq_false.1 hu e (List.mem_of_getElem? he)
  rw [hf.rea he] at this
  simp only [decide_eq_true_eq] at this ⊢
  omega
theorem Inv.push (h : Inv t s a b c) (hf : t.Fine) (wf : ∀ x ∈ t.begins, x ≤ t.L.length) (ha : a ≤ 100000) (l : Int) : RI (t.push l (-1)) s.cls ∧ (∀ b ∈ (t.push l (-1)).born, b ≤ (t.push l (-1)).count) ∧ 0 ≤ (t.push l (-1)).count ∧ (t.push l (-1)).count ≤ (a + 1 : Nat) := by
  have h1 := h.c0
  have h2 := h.cc
  have hx := Ext0.push t l (-1) h1 (by omega)
  have hc := hx.count
  simp only [List.length_singleton] at hc
  refine ⟨fun i e he hr => ?_, fun b hb => ?_, by omega, by omega⟩
  · rw [hx.L] at he
    by_cases hi : i < t.L.length
    · rw [List.getElem?_append_left hi] at he
      obtain ⟨d, hd, g1, g2, g3⟩ := h.ri i e he hr
      refine ⟨d, hd, g1, g2, fun y hy hne => ?_⟩
      obtain ⟨j, f, hj, hf, hfl⟩ := g3 y hy hne
      exact ⟨j, f, hj, by rw [hx.L, List.getElem?_append_left (by omega)]; exact hf, hfl⟩
    · rw [List.getElem?_append_right (by omega)] at he
      have := List.mem_of_getElem? he
      simp only [List.mem_singleton] at this
      subst this
      simp at hr
  · rw [hx.born] at hb
    rcases List.mem_append.1 hb with hb | hb
    · have := h.bi b hb; omega
    · exact (hx.nb b hb).2
theorem Inv.asg (h : Inv t s a b c) (hf : t.Fine) (ha : a ≤ 100000) (l : Int) : Inv (t.assign l (-1)) s (a + 1) b c := by
  have h1 := h.c0
  have h2 := h.cc
  have hwi := h.wi.asg hf l (-1) h1 (by omega)
  have hwf := h.wf.assign l (-1)
  obtain ⟨_, _, _, ok⟩ := id hf
  have hlv := h.lv.assign ok l (-1)
  unfold Tr.assign at hwi hwf hlv ⊢
  split
  · rename_i hm
    rw [if_pos hm] at hwi hwf hlv
    obtain ⟨g1, g2, g3, g4⟩ := h.push hf (fun x hx => Int.le_of_lt (h.wf x hx)) ha l
    exact ⟨hwi, g1, g2, g3, hlv, hwf, g4, h.sz, h.ev, h.cl, h.vars⟩
  · exact h.mono (by omega) (Nat.le_refl _) (Nat.le_refl _)
theorem Inv.dec (h : Inv t s a b c) (hf : t.Fine) (ha : a ≤ 100000) (l : Int) : Inv (t.dec l) s (a + 1) b c := by
  have h1 := h.c0
  have h2 := h.cc
  obtain ⟨_, _, _, ok⟩ := id hf
  have hwi := h.wi.dec ⟨_, _, _, ok.up h.wf⟩ l h1 (by omega)
  have hwf := h.wf.dec l
  have hlv := h.lv.dec ok h.wf l
  unfold Tr.dec at hwi hwf hlv ⊢
  split
  · rename_i hm
    rw [if_pos hm] at hwi hwf hlv
    have hI : RI t.up s.cls := h.ri
    have hx := Ext0.push t.up l (-1) h1 (by show t.count ≤ _; omega)
    have hc := hx.count
    simp only [List.length_singleton] at hc
    have hc' : (t.up.push l (-1)).count = t.count + 1 := hc
    refine ⟨hwi, fun i e he hr => ?_, fun b hb => ?_, by omega, hlv, hwf, by omega, h.sz, h.ev, h.cl, h.vars⟩
    · rw [hx.L] at he
      by_cases hi : i < t.up.L.length
      · rw [List.getElem?_append_left hi] at he
        obtain ⟨d, hd, g1, g2, g3⟩ := h.ri i e he hr
        refine ⟨d, hd, g1, g2, fun y hy hne => ?_⟩
        obtain ⟨j, f, hj, hf, hfl⟩ := g3 y hy hne
        exact ⟨j, f, hj, by rw [hx.L, List.getElem?_append_left (by omega)]; exact hf, hfl⟩
      · rw [List.getElem?_append_right (by omega)] at he
        have := List.mem_of_getElem? he
        simp only [List.mem_singleton] at this
        subst this
        simp at hr
    · rw [hx.born] at hb
      rcases List.mem_append.1 hb with hb | hb
      · have := h.bi b hb; omega
      · exact (hx.nb b hb).2
  · exact h.mono (by omega) (Nat.le_refl _) (Nat.le_refl _)
theorem Inv.back (h : Inv t s a b c) (hf : t.Fine) (n : Int) : Inv (t.back n).1 s a b c := by
  obtain ⟨_, _, _, ok⟩ := id hf
  have hwi := h.wi.back h.lv n
  have hwf := h.wf.back ok n
  have hlv := h.lv.back ok n
  unfold Tr.back at hwi hwf hlv ⊢
  split
  · exact h
  · rename_i h0
    rw [if_neg h0] at hwi hwf hlv
    cases hb : t.begins[n.toNat]? with
    | none => exact h
    | some fr =>
      rw [hb] at hwi hwf hlv
      refine ⟨hwi, fun i e he hr => ?_, fun b hb => h.bi b (List.mem_of_mem_take hb), h.c0, hlv, hwf, h.cc, h.sz, h.ev, h.cl, h.vars⟩
      have he : (t.L.take fr.toNat)[i]? = some e := he
      rw [List.getElem?_take] at he
      split at he
      · rename_i hi
        obtain ⟨d, hd, g1, g2, g3⟩ := h.ri i e he hr
        refine ⟨d, hd, g1, g2, fun y hy hne => ?_⟩
        obtain ⟨j, f, hj, hf, hfl⟩ := g3 y hy hne
        refine ⟨j, f, hj, ?_, hfl⟩
        show (t.L.take fr.toNat)[j]? = some f
        rw [List.getElem?_take, if_pos (by omega)]
        exact hf
      · cases he
theorem Inv.run {i : Int} {ok : Bool} (h : Inv t s a b c) (hf : t.Fine) (hf' : t'.Fine) (R : RunR t s t' s' i ok) : Inv t' s' (a + 40) (b + 81 * c) c := by
  obtain ⟨new, nb, hx⟩ := R.ext
  obtain ⟨_, _, _, ok⟩ := id hf
  have hl := hf'.len.1
  have h1 := h.c0
  have h2 := h.cc
  have h3 := h.sz
  have h4 := h.vars
  have hc := hx.count
  rw [hx.L, List.length_append, hx.vars] at hl
  have hlen := h.len
  refine ⟨R.wi, R.ri, BI.ext hx h.bi, by omega, fun i e he => ?_, fun x hx' => ?_, by omega, ?_, by rw [R.ev]; exact h.ev, fun d hd => ?_, by rw [hx.vars]; exact h.vars⟩
  · rw [hx.begins]
    by_cases hi : i < t.L.length
    · rw [hx.L, List.getElem?_append_left hi] at he
      exact h.lv i e he
    · rw [hx.L, List.getElem?_append_right (by omega)] at he
      have hle := hx.lev e (List.mem_of_getElem? he)
      refine ⟨by omega, by omega, fun k x hk => ?_⟩
      have g1 := ok.beg k x hk
      have g2 := (List.getElem?_eq_some_iff.1 hk).1
      omega
  · rw [hx.begins] at hx'
    have := h.wf x hx'
    rw [hx.L, List.length_append]
    omega
  · have e1 := R.sz
    have e2 : (2 * t.vars + 1) * s.cls.length ≤ 81 * c := Nat.mul_le_mul (by omega) hlen
    omega
  · obtain ⟨e, he, g1, g2⟩ := R.ceq.mem' hd
    rw [g2.length_eq]; exact h.cl e he
theorem inv_new (vars : Int) (hv : vars ≤ 40) : Inv (Tr.new vars) (Wt.new vars) 0 0 0 := by
  refine ⟨wi_new vars, ri_new vars, fun b hb => by simp [Tr.new] at hb, Int.le_refl _, fun i e he => by simp [Tr.new] at he, fun x hx => by simp [Tr.new] at hx, Int.le_refl _, ?_, Nat.le_refl _, fun c hc => by simp [Wt.new] at hc, ?_⟩
  · simp [Wt.sz, Wt.new]
  · show (if vars < 0 ∨ 1048576 < vars then 0 else vars.toNat) ≤ 40
    split <;> omega
end
end Go.Proofs.Ytnmbgfonlpjicaa
