import Derived.Test.YtnkechekdncnlaaOLw
namespace Go.Proofs.Ytnkechekdncnlaa
open Go.Mw
set_option linter.unusedVariables false
set_option linter.unusedSimpArgs false
set_option maxRecDepth 100000
attribute [local irreducible] M.val M.unit M.next M.pick M.new M.nilCheck M.load1 M.loadA M.store M.fieldAddr M.indexSl M.indexArr M.slice M.makeSlice M.buildSlice M.len M.lenS M.cap M.append M.extract M.conv M.not M.neg M.bin M.shift M.eqB M.eqNil M.call M.callv M.gd M.share M.cond M.loop M.draw pureW readW Ret
/-! ### the document's clauses beside the watches: no program here -/
structure X11 where
  vars : Nat
  P : List (List Int × Bool)
def mkC : Nat → List (List Int × Bool) → List Wc
  | _, [] => []
  | i, p :: P => if p.2 then ⟨i, ddp p.1, true⟩ :: mkC (i + 1) P else mkC (i + 1) P
def allC (P : List (List Int × Bool)) : List (List Int) := (P.filter (·.2)).map (·.1)
def isX (x : X11) (i : Int) : Bool := decide (0 ≤ i) && match x.P[i.toNat]? with | some p => p.2 | none => false
def X11.add (x : X11) (l : List Int) : X11 := { x with P := x.P ++ [(l, true)] }
def X11.rem (x : X11) (i : Int) : X11 := if isX x i then { x with P := x.P.set i.toNat ((x.P.getD i.toNat ([], false)).1, false) } else x
theorem mkC_len : ∀ (P : List (List Int × Bool)) (i : Nat), (mkC i P).length = (allC P).length
  | [], i => rfl
  | (l, b) :: P, i => by
    unfold mkC allC
    cases b with
    | true => simpa [allC] using mkC_len P (i + 1)
    | false => simpa [allC] using mkC_len P (i + 1)
theorem mkC_append : ∀ (P Q : List (List Int × Bool)) (i : Nat), mkC i (P ++ Q) = mkC i P ++ mkC (i + P.length) Q
  | [], Q, i => rfl
  | (l, b) :: P, Q, i => by
    have := mkC_append P Q (i + 1)
    have e : i + 1 + P.length = i + (P.length + 1) := by omega
    rw [e] at this
    cases b with
    | true => simp only [List.cons_append, mkC, if_true, List.length_cons, this]
    | false => simp only [List.cons_append, mkC, List.length_cons, this, Bool.false_eq_true, if_false]
theorem mkC_mem : ∀ (P : List (List Int × Bool)) (i : Nat) (c : Wc), c ∈ mkC i P ↔ ∃ k l, P[k]? = some (l, true) ∧ c = ⟨i + k, ddp l, true⟩
  | [], i, c => by simp [mkC]
  | (l, b) :: P, i, c => by
    have ih := mkC_mem P (i + 1) c
    have hs : (∃ k l', P[k]? = some (l', true) ∧ c = (⟨i + 1 + k, ddp l', true⟩ : Wc)) ↔ ∃ k l', ((l, b) :: P)[k + 1]? = some (l', true) ∧ c = (⟨i + (k + 1), ddp l', true⟩ : Wc) := by
      constructor
      · rintro ⟨k, l', h1, h2⟩; exact ⟨k, l', by simpa using h1, by rw [h2]; congr 1; omega⟩
      · rintro ⟨k, l', h1, h2⟩; exact ⟨k, l', by simpa using h1, by rw [h2]; congr 1; omega⟩
    rw [hs] at ih
    constructor
    · intro h
      cases b with
      | true =>
        simp only [mkC, if_true, List.mem_cons] at h
        rcases h with h | h
        · exact ⟨0, l, rfl, h⟩
        · obtain ⟨k, l', h1, h2⟩ := ih.1 h
          exact ⟨k + 1, l', h1, h2⟩
      | false =>
        simp only [mkC, Bool.false_eq_true, if_false] at h
        obtain ⟨k, l', h1, h2⟩ := ih.1 h
        exact ⟨k + 1, l', h1, h2⟩
    · rintro ⟨k, l', h1, h2⟩
      have hm : c ∈ mkC (i + 1) P ∨ (b = true ∧ c = ⟨i, ddp l, true⟩) := by
        cases k with
        | zero =>
          simp only [List.getElem?_cons_zero, Option.some.injEq, Prod.mk.injEq] at h1
          exact .inr ⟨h1.2, by rw [h2, h1.1]; rfl⟩
        | succ k => exact .inl (ih.2 ⟨k, l', h1, h2⟩)
      unfold mkC
      rcases hm with hm | ⟨rfl, hm⟩
      · split
        · exact List.mem_cons_of_mem _ hm
        · exact hm
      · rw [if_pos rfl]; exact List.mem_cons.2 (.inl hm)
theorem mkC_off : ∀ (P : List (List Int × Bool)) (i k : Nat) (l : List Int), mkC i (P.set k (l, false)) = (mkC i P).filter (fun c => decide ((c.n : Int) ≠ ((i + k : Nat) : Int)))
  | [], i, k, l => rfl
  | p :: P, i, 0, l => by
    have hall : ∀ c ∈ mkC (i + 1) P, decide ((c.n : Int) ≠ ((i + 0 : Nat) : Int)) = true := fun c hc => by
      obtain ⟨k, l', _, h2⟩ := (mkC_mem P (i + 1) c).1 hc
      subst h2
      simp only [ne_eq, decide_not, Bool.not_eq_eq_eq_not, Bool.not_true, decide_eq_false_iff_not]
      omega
    simp only [List.set_cons_zero, mkC, Bool.false_eq_true, if_false]
    split
    · rw [List.filter_cons, if_neg (by simp), List.filter_eq_self.2 hall]
    · rw [List.filter_eq_self.2 hall]
  | p :: P, i, k + 1, l => by
    have ih := mkC_off P (i + 1) k l
    have e : i + 1 + k = i + (k + 1) := by omega
    rw [e] at ih
    simp only [List.set_cons_succ, mkC]
    split
    · rw [List.filter_cons, if_pos (by simp only [ne_eq, decide_not, Bool.not_eq_eq_eq_not, Bool.not_true, decide_eq_false_iff_not]; omega), ih]
    · exact ih
theorem CEq.nil_iff {b : List Wc} (h : CEq [] b) : b = [] := List.length_eq_zero_iff.1 h.1
theorem CEq.uncons {c : Wc} {a b : List Wc} (h : CEq (c :: a) b) : ∃ d b', b = d :: b' ∧ d.n = c.n ∧ d.lits.Perm c.lits ∧ CEq a b' := by
  cases b with
  | nil => have := h.1; simp at this
  | cons d b' =>
    obtain ⟨x, h1, h2, h3⟩ := h.2 0 c rfl
    simp only [List.getElem?_cons_zero, Option.some.injEq] at h1
    subst h1
    refine ⟨_, _, rfl, h2, h3, by have := h.1; simp at this; exact this, fun i e he => ?_⟩
    obtain ⟨x, g1, g2⟩ := h.2 (i + 1) e he
    exact ⟨x, by simpa using g1, g2⟩
theorem CEq.cons {c d : Wc} {a b : List Wc} (h1 : d.n = c.n) (h2 : d.lits.Perm c.lits) (h : CEq a b) : CEq (c :: a) (d :: b) :=
  ⟨by simp [h.1], fun i e he => by
    cases i with
    | zero =>
      simp only [List.getElem?_cons_zero, Option.some.injEq] at he
      subst he
      exact ⟨d, rfl, h1, h2⟩
    | succ i => exact h.2 i e (by simpa using he)⟩
theorem CEq.filter (f : Nat → Bool) : ∀ {a b : List Wc}, CEq a b → CEq (a.filter (fun c => f c.n)) (b.filter (fun c => f c.n))
  | [], b, h => by rw [h.nil_iff]; exact CEq.refl _
  | c :: a, b, h => by
    obtain ⟨d, b', rfl, h1, h2, h3⟩ := h.uncons
    have ih := CEq.filter f h3
    simp only [List.filter_cons, h1]
    split
    · exact CEq.cons h1 h2 ih
    · exact ih
theorem CEq.snoc {a b : List Wc} (h : CEq a b) (c : Wc) : CEq (a ++ [c]) (b ++ [c]) :=
  ⟨by simp [h.1], fun i e he => by
    have hl := h.1
    by_cases hi : i < a.length
    · rw [List.getElem?_append_left hi] at he
      obtain ⟨x, g1, g2⟩ := h.2 i e he
      exact ⟨x, by rw [List.getElem?_append_left (by omega)]; exact g1, g2⟩
    · rw [List.getElem?_append_right (by omega)] at he
      exact ⟨e, by rw [List.getElem?_append_right (by omega), hl]; exact he, rfl, List.Perm.refl _⟩⟩
structure Rel (x : X11) (s : Wt) : Prop where
  vars : x.vars = s.vars
  ever : s.ever = x.P.length
  ceq : CEq (mkC 0 x.P) s.cls
section
variable {x : X11} {t t' : Tr} {s s' : Wt}
theorem Rel.mem (r : Rel x s) {c : Wc} (hc : c ∈ s.cls) : ∃ l, x.P[c.n]? = some (l, true) ∧ ∀ y, y ∈ l ↔ y ∈ c.lits := by
  obtain ⟨d, hd, h1, h2⟩ := r.ceq.mem' hc
  obtain ⟨k, l, g1, rfl⟩ := (mkC_mem _ _ _).1 hd
  refine ⟨l, by rw [h1]; simpa using g1, fun y => ?_⟩
  rw [h2.mem_iff, ← (ddp_spec _ l rfl).2.1]
theorem Rel.mem' (r : Rel x s) {k : Nat} {l : List Int} (hk : x.P[k]? = some (l, true)) : ∃ c ∈ s.cls, c.n = k ∧ c.lits.Perm (ddp l) := by
  obtain ⟨c, h1, h2, h3⟩ := r.ceq.mem ((mkC_mem _ _ _).2 ⟨k, l, hk, rfl⟩)
  exact ⟨c, h1, by rw [h2]; simp, h3⟩
theorem mem_allC {P : List (List Int × Bool)} {l : List Int} : l ∈ allC P ↔ ∃ k : Nat, P[k]? = some (l, true) := by
  unfold allC
  rw [List.mem_map]
  constructor
  · rintro ⟨⟨a, b⟩, h1, rfl⟩
    obtain ⟨h2, h3⟩ := List.mem_filter.1 h1
    obtain ⟨k, hk⟩ := List.mem_iff_getElem?.1 h2
    have h3 : b = true := h3
    subst h3
    exact ⟨k, hk⟩
  · rintro ⟨k, hk⟩
    exact ⟨(l, true), List.mem_filter.2 ⟨List.mem_of_getElem? hk, rfl⟩, rfl⟩
theorem Rel.mem_all (r : Rel x s) {c : Wc} (hc : c ∈ s.cls) : ∃ l ∈ allC x.P, ∀ y, y ∈ l ↔ y ∈ c.lits := by
  obtain ⟨l, h1, h2⟩ := r.mem hc
  exact ⟨l, mem_allC.2 ⟨_, h1⟩, h2⟩
theorem Rel.len (r : Rel x s) : s.cls.length = (allC x.P).length := by rw [r.ceq.1, mkC_len]
theorem Rel.get (r : Rel x s) (wi : (s.cls.map Wc.n).Nodup) (i : Int) : (s.get i).isSome = isX x i := by
  unfold isX
  cases hg : s.get i with
  | some c =>
    obtain ⟨h1, h2⟩ := get_some hg
    obtain ⟨l, g1, _⟩ := r.mem h1
    subst h2
    simp [g1]
  | none =>
    by_cases h0 : 0 ≤ i
    · have hn : ∀ c ∈ s.cls, ¬ ((c.n : Int) = i) := by
        have := List.find?_eq_none.1 hg
        intro c hc; simpa using this c hc
      cases hp : x.P[i.toNat]? with
      | none => simp
      | some p =>
        obtain ⟨l, b⟩ := p
        cases b with
        | false => simp
        | true =>
          obtain ⟨c, h1, h2, _⟩ := r.mem' hp
          exact absurd (by omega) (hn c h1)
    · simp [h0]
theorem Rel.ceq2 (r : Rel x s) (h : CEq s.cls s'.cls) (he : s'.ever = s.ever) (hv : s'.vars = s.vars) : Rel x s' := ⟨by rw [hv, r.vars], by rw [he, r.ever], r.ceq.trans h⟩
theorem Rel.add (r : Rel x s) (l : List Int) : Rel (x.add l) (s.add l) := by
  refine ⟨r.vars, by simp [Wt.add, X11.add, r.ever], ?_⟩
  show CEq (mkC 0 (x.P ++ [(l, true)])) (s.cls ++ [_])
  rw [mkC_append, r.ever]
  simp only [mkC, if_true, Nat.zero_add]
  exact r.ceq.snoc _
theorem rem_none {i : Int} (h : s.get i = none) : s.rem i = s := by
  unfold Wt.rem
  have := List.find?_eq_none.1 h
  rw [List.filter_eq_self.2 (fun c hc => by simpa using this c hc)]
theorem Rel.rem (r : Rel x s) (wi : (s.cls.map Wc.n).Nodup) (i : Int) : Rel (x.rem i) (s.rem i) := by
  unfold X11.rem
  cases hi : isX x i with
  | false =>
    rw [← r.get wi i] at hi
    rw [rem_none (by simpa using hi)]
    simpa using r
  | true =>
    have h0 : 0 ≤ i := by
      unfold isX at hi
      simp only [Bool.and_eq_true, decide_eq_true_eq] at hi
      exact hi.1
    rw [if_pos rfl]
    refine ⟨r.vars, by simp [Wt.rem, r.ever], ?_⟩
    show CEq (mkC 0 (x.P.set _ _)) (s.cls.filter _)
    rw [mkC_off]
    have e : ((0 + i.toNat : Nat) : Int) = i := by omega
    rw [e]
    exact r.ceq.filter (fun n => decide ((n : Int) ≠ i))
/-! ### what Run brings about, beside what follows -/
theorem fol_of {was : List Int} {new : List Ent} {nb : List Int} (r : Rel x s') (hf : t'.Fine) (hx : Ext t t' new nb) (ri : RI t' s'.cls) (hw : was = t.L.map (·.lit)) (wi : ∀ c ∈ s'.cls, ∀ y ∈ c.lits, 0 ≤ y) :
    ∀ (n i : Nat) (e : Ent), i < n → t'.L[i]? = some e → Fol (allC x.P) was e.lit
  | 0, i, e, hi, _ => by omega
  | n + 1, i, e, hi, he => by
    have ih := fol_of r hf hx ri hw wi n
    have h0 := (hf.mem (List.mem_of_getElem? he)).1
    by_cases hlt : i < t.L.length
    · have he' := he
      rw [hx.L, List.getElem?_append_left hlt] at he'
      exact .base _ (by rw [hw]; exact List.mem_map.2 ⟨e, List.mem_of_getElem? he', rfl⟩) (by omega)
    · have hm : e ∈ new := by
        rw [hx.L, List.getElem?_append_right (by omega)] at he
        exact List.mem_of_getElem? he
      obtain ⟨c, hc, h1, h2, h3⟩ := ri i e he (hx.rea e hm)
      obtain ⟨l, hl, hlm⟩ := r.mem_all hc
      refine .step l e.lit hl ((hlm _).2 h2) (by omega) (fun y hy hy0 hne => ?_)
      obtain ⟨j, f, hj, hf', hfl⟩ := h3 y ((hlm _).1 hy) hne
      rw [← hfl]
      exact ih j f (by omega) hf'
theorem run_law {i : Int} {ok k : Bool} {out : List Int} (r : Rel x s) (R : RunR t s t' s' i ok) (hv : s'.vars = s.vars) (hf : t'.Fine) (hc : CloseR (allC x.P) (t.L.map (·.lit)) out k) :
    k = ok ∧ (ok = true → i = -1 ∧ out = srt (t'.L.map (·.lit))) ∧ (ok = false → ∃ l, 0 ≤ i ∧ x.P[i.toNat]? = some (l, true) ∧ ∀ y ∈ l, 0 ≤ y ∧ t'.val y = -1) := by
  have r' := r.ceq2 R.ceq R.ev hv
  obtain ⟨new, nb, hx⟩ := R.ext
  have hnn : ∀ c ∈ s'.cls, ∀ y ∈ c.lits, 0 ≤ y := fun c hc y hy => (R.wi.rng c hc y hy).1
  have fol : ∀ y, t'.has y → Fol (allC x.P) (t.L.map (·.lit)) y := fun y ⟨e, he, hy⟩ => by
    obtain ⟨j, hj⟩ := List.mem_iff_getElem?.1 he
    rw [← hy]
    exact fol_of r' hf hx R.ri rfl hnn (j + 1) j e (by omega) hj
  have hmem : ∀ y, y ∈ t'.L.map (·.lit) ↔ t'.has y := fun y => by
    rw [List.mem_map]; exact Iff.rfl
  rcases R.out with ⟨rfl, rfl, hs⟩ | ⟨rfl, c, hcm, hcn, hneg⟩
  · have st : Stp (allC x.P) (t.L.map (·.lit)) (t'.L.map (·.lit)) := by
      refine ⟨fun y hy => fol y ((hmem y).1 hy), fun y hy _ => ?_, fun y hy hn => hf.not ((hmem _).1 hy) ((hmem _).1 hn)⟩
      rw [hx.L, List.map_append]
      exact List.mem_append_left _ hy
    have hd : ∀ l ∈ allC x.P, heldC (t'.L.map (·.lit)) l = true ∨ ∃ a b, a ∈ openC (t'.L.map (·.lit)) l ∧ b ∈ openC (t'.L.map (·.lit)) l ∧ a ≠ b := fun l hl => by
      obtain ⟨k, hk⟩ := mem_allC.1 hl
      obtain ⟨c, hcm, hcn, hcp⟩ := r'.mem' hk
      have hm : ∀ y, y ∈ l ↔ y ∈ c.lits := fun y => by rw [hcp.mem_iff, (ddp_spec _ l rfl).2.1]
      have hh : (∃ y ∈ c.lits, t'.has y) → heldC (t'.L.map (·.lit)) l = true := fun ⟨y, h1, h2⟩ => heldC_iff.2 ⟨y, (hm y).2 h1, hnn c hcm y h1, (hmem y).2 h2⟩
      rcases hs c hcm with h | ⟨a, b, rr, hab, ha, hb⟩
      · exact .inl (hh h)
      · have ma : a ∈ c.lits := by rw [hab]; simp
        have mb : b ∈ c.lits := by rw [hab]; simp
        have a0 := hnn c hcm a ma
        have b0 := hnn c hcm b mb
        by_cases pa : t'.has a
        · exact .inl (hh ⟨a, ma, pa⟩)
        by_cases pb : t'.has b
        · exact .inl (hh ⟨b, mb, pb⟩)
        have na : ¬ t'.has (notOf a) := fun h => by have := (hf.val_neg a0).2 h; omega
        have nb : ¬ t'.has (notOf b) := fun h => by have := (hf.val_neg b0).2 h; omega
        have hne : a ≠ b := by
          have := R.wi.nodl c hcm
          rw [hab] at this
          exact fun e => (List.nodup_cons.1 this).1 (e ▸ List.mem_cons_self)
        exact .inr ⟨a, b, mem_openC.2 ⟨(hm a).2 ma, a0, fun h => pa ((hmem a).1 h), fun h => na ((hmem _).1 h)⟩, mem_openC.2 ⟨(hm b).2 mb, b0, fun h => pb ((hmem b).1 h), fun h => nb ((hmem _).1 h)⟩, hne⟩
    obtain ⟨e1, e2⟩ := hc.uniq (CloseR.ok st hd)
    exact ⟨e2, fun _ => ⟨rfl, e1⟩, fun h => by cases h⟩
  · obtain ⟨l, hl, hm⟩ := r'.mem hcm
    have bot : Bot (allC x.P) (t.L.map (·.lit)) := .inr ⟨l, mem_allC.2 ⟨_, hl⟩, fun y hy _ => fol _ ((hf.val_neg (hnn c hcm y ((hm y).1 hy))).1 (hneg y ((hm y).1 hy)))⟩
    obtain ⟨e1, e2⟩ := hc.uniq (CloseR.no bot)
    refine ⟨e2, (fun h => by cases h), fun _ => ⟨l, by omega, by rw [← hcn, Int.toNat_natCast]; exact hl, fun y hy => ?_⟩⟩
    have y0 := hnn c hcm y ((hm y).1 hy)
    refine ⟨y0, ?_⟩
    have := hneg y ((hm y).1 hy)
    rcases hf.val y0 with ⟨h, _⟩ | ⟨h, _⟩ | ⟨h, _⟩ <;> omega
/-- Each reason is a clause that is there, and its others do not hold. -/
theorem held_law (r : Rel x s) (ri : RI t s.cls) {i : Nat} {e : Ent} (he : t.L[i]? = some e) (h0 : 0 ≤ e.rea) : ∃ l, x.P[e.rea.toNat]? = some (l, true) ∧ e.lit ∈ l ∧ ∀ y ∈ l, y ≠ e.lit → notOf y ∈ (t.L.map (·.lit)).take i := by
  obtain ⟨c, hc, h1, h2, h3⟩ := ri i e he h0
  obtain ⟨l, hl, hm⟩ := r.mem hc
  refine ⟨l, by rw [← h1, Int.toNat_natCast]; exact hl, (hm _).2 h2, fun y hy hne => ?_⟩
  obtain ⟨j, f, hj, hf, hfl⟩ := h3 y ((hm _).1 hy) hne
  rw [← hfl]
  refine List.mem_of_getElem? (i := j) ?_
  rw [List.getElem?_take, if_pos hj, List.getElem?_map, hf]; rfl
end
end Go.Proofs.Ytnkechekdncnlaa
