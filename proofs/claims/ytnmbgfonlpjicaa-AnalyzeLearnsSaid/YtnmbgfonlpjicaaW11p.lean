import Derived.Test.YtnmbgfonlpjicaaW11d
namespace Go.Proofs.Ytnmbgfonlpjicaa
open Go.Mw
set_option linter.unusedVariables false
set_option linter.unusedSimpArgs false
set_option maxRecDepth 100000
attribute [local irreducible] M.val M.unit M.next M.pick M.new M.nilCheck M.load1 M.loadA M.store M.fieldAddr M.indexSl M.indexArr M.slice M.makeSlice M.buildSlice M.len M.lenS M.cap M.append M.extract M.conv M.not M.neg M.bin M.shift M.eqB M.eqNil M.call M.callv M.gd M.share M.cond M.loop M.draw pureW readW Ret
/-! ### a trail and a watch: no program here -/
def Tr.has (t : Tr) (x : Int) : Prop := ∃ e ∈ t.L, e.lit = x
def Tr.Fine (t : Tr) : Prop := ∃ a ls rs, t.Ok a ls rs
theorem TWR.fine {w : World} {p q : Nat} {O : Nat → Prop} {bk : Nat → Nat} {cv : Nat → Value} {wv : Value} {t : Tr} {s : Wt} (h : TWR w p q O bk cv wv t s) : t.Fine := by
  obtain ⟨lab, ow, r, vb, vd, bvs, h⟩ := h
  obtain ⟨_, _, _, _, _, _, a, ls, rs, _, _, _, _, _, _, _, _, _, ok⟩ := h.tr
  exact ⟨a, ls, rs, ok⟩
theorem half_eq {a b : Int} (ha : 0 ≤ a) (hb : 0 ≤ b) (h : a / 2 = b / 2) : a = b ∨ a = notOf b := by
  unfold notOf flip1
  rw [if_neg (by omega)]
  split <;> omega
theorem notOf_nn {a : Int} (h : 0 ≤ a) : 0 ≤ notOf a ∧ notOf a / 2 = a / 2 ∧ notOf a ≠ a ∧ notOf (notOf a) = a := by
  unfold notOf flip1
  rw [if_neg (by omega)]
  split
  · rw [if_neg (by omega), if_neg (by omega)]; omega
  · rw [if_neg (by omega), if_pos (by omega)]; omega
theorem notOf_lt {a : Int} {n : Nat} (h : 0 ≤ a) (h2 : a < 2 * n) : notOf a < 2 * n := by
  unfold notOf flip1
  rw [if_neg (by omega)]
  split <;> omega
section
variable {t t' : Tr} {s : Wt}
theorem Tr.Fine.mem (h : t.Fine) {e : Ent} (he : e ∈ t.L) : 0 ≤ e.lit ∧ e.lit / 2 < t.vars := by
  obtain ⟨a, ls, rs, ok⟩ := h
  obtain ⟨i, hi⟩ := List.mem_iff_getElem?.1 he
  have := ok.lits i e hi
  exact ⟨this.1, this.2.1⟩
theorem Tr.Fine.len (h : t.Fine) : t.L.length ≤ t.vars ∧ t.born.length = t.L.length ∧ t.vars ≤ 1048576 := by
  obtain ⟨a, ls, rs, ok⟩ := h
  exact ⟨ok.llen, ok.lborn, ok.vars⟩
theorem Tr.Fine.uniq (h : t.Fine) {i j : Nat} {e f : Ent} (he : t.L[i]? = some e) (hf : t.L[j]? = some f) (hv : e.lit / 2 = f.lit / 2) : i = j ∧ e = f := by
  obtain ⟨a, ls, rs, ok⟩ := h
  have h1 := (ok.lits i e he).2.2.2.2
  have h2 := (ok.lits j f hf).2.2.2.2
  rw [hv, h2] at h1
  simp only [Option.some.injEq] at h1
  subst h1
  rw [he] at hf
  exact ⟨rfl, by cases hf; rfl⟩
theorem Tr.Fine.ent (h : t.Fine) {i : Nat} {e : Ent} (he : t.L[i]? = some e) : t.ent (e.lit / 2) = some e := by
  obtain ⟨a, ls, rs, ok⟩ := h
  exact Tr.ent_of (ok.lits i e he).2.2.2.2 he
theorem Tr.Fine.lev (h : t.Fine) {i : Nat} {e : Ent} (he : t.L[i]? = some e) : t.lev (varOf e.lit) = e.lev := by
  have h0 := (h.mem (List.mem_of_getElem? he)).1
  unfold varOf
  rw [if_neg (by omega)]
  unfold Tr.lev; rw [h.ent he]
theorem Tr.Fine.rea (h : t.Fine) {i : Nat} {e : Ent} (he : t.L[i]? = some e) : t.rea (e.lit / 2) = e.rea := by
  unfold Tr.rea; rw [h.ent he]
theorem Tr.Fine.not (h : t.Fine) {x : Int} (h1 : t.has x) (h2 : t.has (notOf x)) : False := by
  obtain ⟨e, he, rfl⟩ := h1
  obtain ⟨f, hf, hx⟩ := h2
  obtain ⟨i, hi⟩ := List.mem_iff_getElem?.1 he
  obtain ⟨j, hj⟩ := List.mem_iff_getElem?.1 hf
  have h0 := notOf_nn (h.mem he).1
  have := (h.uniq hj hi (by rw [hx]; exact h0.2.1)).2
  subst this
  exact h0.2.2.1 hx.symm
/-- The three ways that a literal may be. -/
theorem Tr.Fine.val (h : t.Fine) {x : Int} (hx : 0 ≤ x) : (t.val x = 1 ∧ t.has x) ∨ (t.val x = -1 ∧ t.has (notOf x)) ∨ (t.val x = 0 ∧ ¬ t.has x ∧ ¬ t.has (notOf x)) := by
  unfold Tr.val
  rw [if_neg (by omega)]
  have key : ∀ e ∈ t.L, e.lit / 2 = x / 2 → t.ent (x / 2) = some e := fun e he hv => by
    obtain ⟨i, hi⟩ := List.mem_iff_getElem?.1 he
    rw [← hv]; exact h.ent hi
  cases hen : t.ent (x / 2) with
  | none =>
    refine .inr (.inr ⟨rfl, fun ⟨e, he, hx'⟩ => ?_, fun ⟨e, he, hx'⟩ => ?_⟩)
    · have := key e he (by rw [hx']); rw [hen] at this; cases this
    · have := key e he (by rw [hx']; exact (notOf_nn hx).2.1); rw [hen] at this; cases this
  | some e =>
    have hm : e ∈ t.L ∧ e.lit / 2 = x / 2 := by
      unfold Tr.ent at hen
      cases hi : t.idx (x / 2) with
      | none => rw [hi] at hen; cases hen
      | some i =>
        rw [hi] at hen
        obtain ⟨f, hf, hfv⟩ := Tr.idx_some hi
        simp only [Option.bind_some] at hen
        rw [hf] at hen; cases hen
        exact ⟨List.mem_of_getElem? hf, hfv⟩
    by_cases hxe : e.lit = x
    · simp only [hxe, if_true]
      exact .inl ⟨trivial, e, hm.1, hxe⟩
    · simp only [hxe, if_false]
      refine .inr (.inl ⟨trivial, e, hm.1, ?_⟩)
      rcases half_eq (h.mem hm.1).1 hx hm.2 with h1 | h1
      · exact absurd h1 hxe
      · exact h1
theorem Tr.Fine.val_neg (h : t.Fine) {x : Int} (hx : 0 ≤ x) : t.val x < 0 ↔ t.has (notOf x) := by
  rcases h.val hx with ⟨h1, h2⟩ | ⟨h1, h2⟩ | ⟨h1, h2, h3⟩
  · exact ⟨fun h' => by omega, fun h' => (h.not h2 h').elim⟩
  · exact ⟨fun _ => h2, fun _ => by omega⟩
  · exact ⟨fun h' => by omega, fun h' => absurd h' h3⟩
theorem Tr.Fine.val_pos (h : t.Fine) {x : Int} (hx : 0 ≤ x) : 0 < t.val x ↔ t.has x := by
  rcases h.val hx with ⟨h1, h2⟩ | ⟨h1, h2⟩ | ⟨h1, h2, h3⟩
  · exact ⟨fun h' => h2, fun h' => by omega⟩
  · exact ⟨fun h' => by omega, fun h' => (h.not h' h2).elim⟩
  · exact ⟨fun h' => by omega, fun h' => absurd h' h2⟩
theorem Tr.Fine.may (h : t.Fine) {x : Int} (hx : 0 ≤ x) (hv : x < 2 * t.vars) : t.may x = decide (t.val x = 0) := by
  have e : t.may x = (t.ent (x / 2)).isNone := by
    unfold Tr.may Tr.ent
    rw [decide_eq_true hx, decide_eq_true (show x / 2 < (t.vars : Int) by omega), Bool.true_and, Bool.true_and]
    cases hi : t.idx (x / 2) with
    | none => rfl
    | some i =>
      obtain ⟨f, hf, _⟩ := Tr.idx_some hi
      simp only [Option.bind_some, hf, Option.isNone_some]
  rw [e]
  unfold Tr.val
  rw [if_neg (by omega)]
  cases t.ent (x / 2) with
  | none => simp
  | some e =>
    by_cases h : e.lit = x <;> simp [h]
/-- More was assigned, and nothing else. -/
structure Ext0 (t t' : Tr) (new : List Ent) (nb : List Int) : Prop where
  L : t'.L = t.L ++ new
  born : t'.born = t.born ++ nb
  vars : t'.vars = t.vars
  begins : t'.begins = t.begins
  len : nb.length = new.length
  count : t'.count = t.count + new.length
  nb : ∀ b ∈ nb, t.count < b ∧ b ≤ t'.count
structure Ext (t t' : Tr) (new : List Ent) (nb : List Int) : Prop extends Ext0 t t' new nb where
  rea : ∀ e ∈ new, 0 ≤ e.rea
  lev : ∀ e ∈ new, e.lev = t.begins.length
theorem Ext.refl (t : Tr) : Ext t t [] [] := ⟨⟨by simp, by simp, rfl, rfl, rfl, by simp, by simp⟩, by simp, by simp⟩
theorem Ext.trans {t1 t2 t3 : Tr} {n1 n2 : List Ent} {b1 b2 : List Int} (h : Ext t1 t2 n1 b1) (k : Ext t2 t3 n2 b2) : Ext t1 t3 (n1 ++ n2) (b1 ++ b2) := by
  have h1 := h.count
  have h2 := k.count
  refine ⟨⟨by rw [k.L, h.L, List.append_assoc], by rw [k.born, h.born, List.append_assoc], by rw [k.vars, h.vars], by rw [k.begins, h.begins], by simp [h.len, k.len], by rw [k.count, h.count]; simp; omega, fun b hb => ?_⟩, fun e he => ?_, fun e he => ?_⟩
  · rcases List.mem_append.1 hb with hb | hb
    · have := h.nb b hb; omega
    · have := k.nb b hb; omega
  · rcases List.mem_append.1 he with he | he
    · exact h.rea e he
    · exact k.rea e he
  · rcases List.mem_append.1 he with he | he
    · exact h.lev e he
    · rw [k.lev e he, h.begins]
theorem Ext.assign (t : Tr) {l r : Int} (hr : 0 ≤ r) (hc0 : 0 ≤ t.count) (hc : t.count ≤ 1000000000000) : ∃ new nb, Ext t (t.assign l r) new nb ∧ (t.may l = true → new = [⟨l, t.begins.length, r⟩]) ∧ (t.may l = false → t.assign l r = t) := by
  unfold Tr.assign
  cases hm : t.may l with
  | false => exact ⟨[], [], by simpa using Ext.refl t, by simp, by simp⟩
  | true =>
    have hb : bump t.count = t.count + 1 := wrap_i64 (by omega) (by omega)
    refine ⟨[⟨l, t.begins.length, r⟩], [bump t.count], ?_, fun _ => rfl, by simp⟩
    rw [if_pos rfl]
    exact ⟨⟨rfl, rfl, rfl, rfl, rfl, by simp [Tr.push, hb], fun b hb' => by
      simp only [List.mem_singleton] at hb'
      subst hb'
      simp only [Tr.push, hb]; omega⟩, fun e he => by
      simp only [List.mem_singleton] at he
      subst he; exact hr, fun e he => by
      simp only [List.mem_singleton] at he
      subst he; rfl⟩
theorem Ext.has {new : List Ent} {nb : List Int} (h : Ext t t' new nb) {x : Int} (hx : t.has x) : t'.has x := by
  obtain ⟨e, he, hx⟩ := hx
  exact ⟨e, by rw [h.L]; exact List.mem_append_left _ he, hx⟩
/-- What was looked at is as it was. -/
def Live (t : Tr) (s : Wt) (j : Nat) : Prop := ∀ i, i ≤ j → ∃ e b, t.L[i]? = some e ∧ t.born[i]? = some b ∧ s.done[i]? = some ⟨e.lit, b⟩
theorem Live.of_ext0 {new : List Ent} {nb : List Int} (h : Ext0 t t' new nb) (hf : t.Fine) (hd : ∀ d ∈ s.done, d.born ≤ t.count) {j : Nat} (hl : Live t' s j) : Live t s j ∧ j < t.L.length := by
  have hlen := hf.len
  have key : ∀ i, i ≤ j → i < t.L.length := fun i hi => by
    apply Classical.byContradiction
    intro hn
    obtain ⟨e, b, h1, h2, h3⟩ := hl i hi
    rw [h.born, List.getElem?_append_right (by omega)] at h2
    have h4 := h.nb b (List.mem_of_getElem? h2)
    have h5 := hd _ (List.mem_of_getElem? h3)
    simp only at h5
    omega
  refine ⟨fun i hi => ?_, key j (Nat.le_refl _)⟩
  obtain ⟨e, b, h1, h2, h3⟩ := hl i hi
  have hk := key i hi
  rw [h.L, List.getElem?_append_left hk] at h1
  rw [h.born, List.getElem?_append_left (by omega)] at h2
  exact ⟨e, b, h1, h2, h3⟩
def Okw (t : Tr) (s : Wt) (a b : Int) : Prop := ∀ j e, Live t s j → t.L[j]? = some e → e.lit = notOf a → ∃ f ∈ t.L, f.lit = b ∧ f.lev ≤ e.lev
def AtW (s : Wt) (X : Int → Int → Prop) (a n : Int) : Prop := n ∈ s.by1.getD a.toNat [] ∨ X a n
structure WI (t : Tr) (s : Wt) (X : Int → Int → Prop) : Prop where
  vars : s.vars = t.vars
  byl : s.by1.length = 2 * t.vars
  num : ∀ c ∈ s.cls, c.n < s.ever
  nod : (s.cls.map Wc.n).Nodup
  rng : ∀ c ∈ s.cls, ∀ x ∈ c.lits, 0 ≤ x ∧ x < 2 * t.vars
  nodl : ∀ c ∈ s.cls, c.lits.Nodup
  who : ∀ c ∈ s.cls, c.whole = true → (c.n : Int) ∈ s.whole
  wat : ∀ c ∈ s.cls, c.whole = false → ∃ a b r, c.lits = a :: b :: r ∧ AtW s X a c.n ∧ AtW s X b c.n ∧ Okw t s a b ∧ Okw t s b a
  dn : ∀ d ∈ s.done, d.born ≤ t.count
theorem Okw.ext0 {new : List Ent} {nb : List Int} (h : Ext0 t t' new nb) (hf : t.Fine) (hd : ∀ d ∈ s.done, d.born ≤ t.count) {a b : Int} (ho : Okw t s a b) : Okw t' s a b := by
  intro j e hj he hx
  obtain ⟨h1, h2⟩ := Live.of_ext0 h hf hd hj
  rw [h.L, List.getElem?_append_left h2] at he
  obtain ⟨f, h3, h4⟩ := ho j e h1 he hx
  exact ⟨f, by rw [h.L]; exact List.mem_append_left _ h3, h4⟩
theorem WI.ext0 {X : Int → Int → Prop} {new : List Ent} {nb : List Int} (h : Ext0 t t' new nb) (hf : t.Fine) (wi : WI t s X) : WI t' s X := by
  have hc := h.count
  refine ⟨by rw [wi.vars, h.vars], by rw [wi.byl, h.vars], wi.num, wi.nod, by rw [h.vars]; exact wi.rng, wi.nodl, wi.who, fun c hc hw => ?_, fun d hd => by have := wi.dn d hd; omega⟩
  obtain ⟨a, b, r, h1, h2, h3, h4, h5⟩ := wi.wat c hc hw
  exact ⟨a, b, r, h1, h2, h3, h4.ext0 h hf wi.dn, h5.ext0 h hf wi.dn⟩
theorem WI.ext {X : Int → Int → Prop} {new : List Ent} {nb : List Int} (h : Ext t t' new nb) (hf : t.Fine) (wi : WI t s X) : WI t' s X := wi.ext0 h.toExt0 hf
/-- Anything is assigned. -/
theorem Ext0.push (t : Tr) (l r : Int) (hc0 : 0 ≤ t.count) (hc : t.count ≤ 1000000000000) : Ext0 t (t.push l r) [⟨l, t.begins.length, r⟩] [bump t.count] := by
  have hb : bump t.count = t.count + 1 := wrap_i64 (by omega) (by omega)
  exact ⟨rfl, rfl, rfl, rfl, rfl, by simp [Tr.push, hb], fun b hb' => by
    simp only [List.mem_singleton] at hb'
    subst hb'
    simp only [Tr.push, hb]; omega⟩
/-- A literal that may hold is watched without a care. -/
theorem Okw.of_val (hf : t.Fine) {a b : Int} (ha : 0 ≤ a) (hv : 0 ≤ t.val a) : Okw t s a b := by
  intro j e _ he hx
  have := (hf.val_neg ha).2 ⟨e, List.mem_of_getElem? he, hx⟩
  omega
theorem get_of {n : Nat} {cls : List Wc} (hn : (cls.map Wc.n).Nodup) {c : Wc} (hc : c ∈ cls) : cls.find? (fun d => decide ((d.n : Int) = c.n)) = some c := by
  induction cls with
  | nil => simp at hc
  | cons d cls ih =>
    rw [List.map_cons, List.nodup_cons] at hn
    rw [List.find?_cons]
    by_cases e : (d.n : Int) = c.n
    · rw [decide_eq_true e]
      simp only [Option.some.injEq]
      rcases List.mem_cons.1 hc with h | h
      · exact h.symm
      · exfalso
        apply hn.1
        have : d.n = c.n := by omega
        rw [this]
        exact List.mem_map_of_mem h
    · rw [decide_eq_false e]
      rcases List.mem_cons.1 hc with h | h
      · rw [h] at e; exact absurd rfl e
      · exact ih hn.2 h
theorem WI.get {X : Int → Int → Prop} (wi : WI t s X) {c : Wc} (hc : c ∈ s.cls) : s.get c.n = some c := get_of (n := 0) wi.nod hc
/-- The reasons. -/
def RI (t : Tr) (cls : List Wc) : Prop := ∀ (i : Nat) (e : Ent), t.L[i]? = some e → 0 ≤ e.rea → ∃ c ∈ cls, (c.n : Int) = e.rea ∧ e.lit ∈ c.lits ∧ ∀ l ∈ c.lits, l ≠ e.lit → ∃ (j : Nat) (f : Ent), j < i ∧ t.L[j]? = some f ∧ f.lit = notOf l
/-- The same clauses, their literals in any order. -/
def CEq (cls cls' : List Wc) : Prop := cls'.length = cls.length ∧ ∀ (i : Nat) (c : Wc), cls[i]? = some c → ∃ c' : Wc, cls'[i]? = some c' ∧ c'.n = c.n ∧ c'.lits.Perm c.lits
theorem CEq.refl (cls : List Wc) : CEq cls cls := ⟨rfl, fun i c h => ⟨c, h, rfl, List.Perm.refl _⟩⟩
theorem CEq.trans {a b c : List Wc} (h : CEq a b) (k : CEq b c) : CEq a c :=
  ⟨by rw [k.1, h.1], fun i x hx => by
    obtain ⟨y, h1, h2, h3⟩ := h.2 i x hx
    obtain ⟨z, k1, k2, k3⟩ := k.2 i y h1
    exact ⟨z, k1, by rw [k2, h2], k3.trans h3⟩⟩
theorem CEq.mem {a b : List Wc} (h : CEq a b) {c : Wc} (hc : c ∈ a) : ∃ c' ∈ b, c'.n = c.n ∧ c'.lits.Perm c.lits := by
  obtain ⟨i, hi⟩ := List.mem_iff_getElem?.1 hc
  obtain ⟨c', h1, h2, h3⟩ := h.2 i c hi
  exact ⟨c', List.mem_of_getElem? h1, h2, h3⟩
theorem CEq.mem' {a b : List Wc} (h : CEq a b) {c' : Wc} (hc : c' ∈ b) : ∃ c ∈ a, c'.n = c.n ∧ c'.lits.Perm c.lits := by
  obtain ⟨i, hi⟩ := List.mem_iff_getElem?.1 hc
  have hlt := (List.getElem?_eq_some_iff.1 hi).1
  have hl := h.1
  obtain ⟨d, h1, h2, h3⟩ := h.2 i a[i] (List.getElem?_eq_getElem (by omega))
  rw [hi] at h1; cases h1
  exact ⟨a[i], List.getElem_mem _, h2, h3⟩
theorem CEq.set {cls : List Wc} (hn : (cls.map Wc.n).Nodup) {c : Wc} (hc : c ∈ cls) {L : List Int} {b : Bool} (hp : L.Perm c.lits) : CEq cls (setC cls c.n (fun d => { d with lits := L, whole := b })) := by
  refine ⟨by simp [setC], fun i d hd => ?_⟩
  unfold setC
  rw [List.getElem?_map, hd]
  by_cases e : d.n = c.n
  · refine ⟨_, rfl, ?_, ?_⟩
    · simp [e]
    · have : d = c := by
        have h1 := get_of (n := 0) hn hc
        have h2 := get_of (n := 0) hn (List.mem_of_getElem? hd)
        rw [e, h1] at h2
        cases h2; rfl
      subst this
      simpa using hp
  · exact ⟨d, by simp [e], rfl, List.Perm.refl _⟩
theorem RI.ceq {cls cls' : List Wc} (h : CEq cls cls') (r : RI t cls) : RI t cls' := by
  intro i e he hr
  obtain ⟨c, hc, h1, h2, h3⟩ := r i e he hr
  obtain ⟨c', hc', g1, g2⟩ := h.mem hc
  exact ⟨c', hc', by rw [g1, h1], g2.mem_iff.2 h2, fun l hl => h3 l (g2.mem_iff.1 hl)⟩
theorem RI.ext {cls : List Wc} {new : List Ent} {nb : List Int} (h : Ext t t' new nb) (r : RI t cls) (hn : ∀ (i : Nat) (e : Ent), t.L.length ≤ i → t'.L[i]? = some e → ∃ c ∈ cls, (c.n : Int) = e.rea ∧ e.lit ∈ c.lits ∧ ∀ l ∈ c.lits, l ≠ e.lit → ∃ (j : Nat) (f : Ent), j < i ∧ t'.L[j]? = some f ∧ f.lit = notOf l) : RI t' cls := by
  intro i e he hr
  by_cases hlt : i < t.L.length
  · have he' := he
    rw [h.L, List.getElem?_append_left hlt] at he'
    obtain ⟨c, hc, h1, h2, h3⟩ := r i e he' hr
    exact ⟨c, hc, h1, h2, fun l hl hne => by
      obtain ⟨j, f, g1, g2, g3⟩ := h3 l hl hne
      exact ⟨j, f, g1, by rw [h.L, List.getElem?_append_left (by omega)]; exact g2, g3⟩⟩
  · exact hn i e (by omega) he
/-- One was assigned by a clause. -/
theorem RI.one {cls : List Wc} (hf : t.Fine) (r : RI t cls) {c : Wc} (hc : c ∈ cls) {a : Int} (ha : a ∈ c.lits) (hr : ∀ l ∈ c.lits, 0 ≤ l) (h : ∀ l ∈ c.lits, l ≠ a → t.val l < 0) (hc0 : 0 ≤ t.count) (hcc : t.count ≤ 1000000000000) : RI (t.assign a c.n) cls := by
  obtain ⟨new, nb, hx, h1, h2⟩ := Ext.assign t (l := a) (r := c.n) (by omega) hc0 hcc
  cases hm : t.may a with
  | false => rw [h2 hm]; exact r
  | true =>
    have hnew := h1 hm
    subst hnew
    refine r.ext hx (fun i e hi he => ?_)
    have hL := hx.L
    have hlt := (List.getElem?_eq_some_iff.1 he).1
    rw [hL, List.getElem?_append_right hi] at he
    have hl1 : t.L.length + 1 > i := by rw [hL] at hlt; simpa using hlt
    have : i - t.L.length = 0 := by omega
    rw [this] at he
    simp only [List.getElem?_cons_zero, Option.some.injEq] at he
    subst he
    refine ⟨c, hc, rfl, ha, fun l hl hne => ?_⟩
    obtain ⟨f, hf1, hf2⟩ := (hf.val_neg (hr l hl)).1 (h l hl hne)
    obtain ⟨j, hj⟩ := List.mem_iff_getElem?.1 hf1
    have hjl := (List.getElem?_eq_some_iff.1 hj).1
    exact ⟨j, f, by omega, by rw [hL, List.getElem?_append_left hjl]; exact hj, hf2⟩
end
end Go.Proofs.Ytnmbgfonlpjicaa
