import Derived.Test.YtnmbgfonlpjicaaW11e
namespace Go.Proofs.Ytnmbgfonlpjicaa
open Go.Mw
set_option linter.unusedVariables false
set_option linter.unusedSimpArgs false
set_option maxRecDepth 100000
attribute [local irreducible] M.val M.unit M.next M.pick M.new M.nilCheck M.load1 M.loadA M.store M.fieldAddr M.indexSl M.indexArr M.slice M.makeSlice M.buildSlice M.len M.lenS M.cap M.append M.extract M.conv M.not M.neg M.bin M.shift M.eqB M.eqNil M.call M.callv M.gd M.share M.cond M.loop M.draw pureW readW Ret
/-! ### a literal fell: no program here -/
def Xk (x : Int) (list : List Int) (k : Nat) : Int → Int → Prop := fun y n => y = x ∧ n ∈ list.drop k
def Tru (t : Tr) (e0 : Ent) (b : Int) : Prop := ∃ f ∈ t.L, f.lit = b ∧ f.lev ≤ e0.lev
structure FeI (t : Tr) (s : Wt) (t' : Tr) (s' : Wt) (x : Int) (e0 : Ent) (list : List Int) (k : Nat) : Prop where
  ext : ∃ new nb, Ext t t' new nb
  ceq : CEq s.cls s'.cls
  wi : WI t' s' (Xk x list k)
  ri : RI t' s'.cls
  dn : s'.done = s.done
  ev : s'.ever = s.ever
  pro : ∀ c ∈ s'.cls, c.whole = false → ∀ a b r, c.lits = a :: b :: r → (a = x → (c.n : Int) ∈ list.drop k ∨ Tru t' e0 b) ∧ (b = x → (c.n : Int) ∈ list.drop k ∨ Tru t' e0 a)
  sz : s'.sz + (list.length - k) ≤ s.sz
structure FeR (t : Tr) (s : Wt) (t' : Tr) (s' : Wt) (x : Int) (e0 : Ent) (bad : Int) : Prop where
  ext : ∃ new nb, Ext t t' new nb
  ceq : CEq s.cls s'.cls
  wi : WI t' s' X0
  ri : RI t' s'.cls
  dn : s'.done = s.done
  ev : s'.ever = s.ever
  sz : s'.sz ≤ s.sz
  out : (bad = -1 ∧ ∀ c ∈ s'.cls, c.whole = false → ∀ a b r, c.lits = a :: b :: r → (a = x → Tru t' e0 b) ∧ (b = x → Tru t' e0 a)) ∨ (0 ≤ bad ∧ ∃ c ∈ s'.cls, (c.n : Int) = bad ∧ ∀ x ∈ c.lits, t'.val x < 0)
section
variable {t t' : Tr} {s s' : Wt} {x : Int} {e0 : Ent} {list : List Int} {k : Nat}
theorem Tru.ext {t2 : Tr} {new : List Ent} {nb : List Int} (h : Ext t' t2 new nb) {b : Int} (hb : Tru t' e0 b) : Tru t2 e0 b := by
  obtain ⟨f, h1, h2⟩ := hb
  exact ⟨f, by rw [h.L]; exact List.mem_append_left _ h1, h2⟩
theorem drop_at {i : Int} (h : list[k]? = some i) : list.drop k = i :: list.drop (k + 1) := by
  have hlt := (List.getElem?_eq_some_iff.1 h).1
  rw [List.drop_eq_getElem_cons hlt]
  rw [List.getElem?_eq_getElem hlt] at h
  simp only [Option.some.injEq] at h
  rw [h]
theorem in_drop {i n : Int} (h : list[k]? = some i) (hn : n ∈ list.drop k) (hne : n ≠ i) : n ∈ list.drop (k + 1) := by
  rw [drop_at h] at hn
  rcases List.mem_cons.1 hn with e | e
  · exact absurd e hne
  · exact e
theorem FeI.start (wi : WI t s X0) (ri : RI t s.cls) (hx : 0 ≤ x) (hl : s.by1[x.toNat]? = some list) : FeI t s t { s with by1 := s.by1.set x.toNat [] } x e0 list 0 := by
  have hlt := (List.getElem?_eq_some_iff.1 hl).1
  have hat : ∀ a n : Int, 0 ≤ a → AtW s X0 a n → AtW { s with by1 := s.by1.set x.toNat [] } (Xk x list 0) a n := fun a n ha h => by
    rcases h with h | h
    · by_cases e : a = x
      · subst e
        rw [getD_of hl] at h
        exact .inr ⟨rfl, by rw [List.drop_zero]; exact h⟩
      · refine .inl ?_
        show n ∈ (s.by1.set x.toNat []).getD a.toNat []
        rw [List.getD_eq_getElem?_getD, List.getElem?_set_ne (by omega), ← List.getD_eq_getElem?_getD]
        exact h
    · exact h.elim
  refine ⟨⟨[], [], Ext.refl t⟩, CEq.refl _, ⟨wi.vars, by show (s.by1.set x.toNat []).length = _; rw [List.length_set]; exact wi.byl, wi.num, wi.nod, wi.rng, wi.nodl, wi.who, fun c hc hw => ?_, wi.dn⟩, ri, rfl, rfl, fun c hc hw a b r hr => ?_, ?_⟩
  · obtain ⟨a, b, r, h1, h2, h3, h4, h5⟩ := wi.wat c hc hw
    have hr := wi.rng c hc
    rw [h1] at hr
    exact ⟨a, b, r, h1, hat a c.n (hr a (by simp)).1 h2, hat b c.n (hr b (by simp)).1 h3, h4, h5⟩
  · obtain ⟨a', b', r', h1, h2, h3, _, _⟩ := wi.wat c hc hw
    rw [hr] at h1
    simp only [List.cons.injEq] at h1
    obtain ⟨rfl, rfl, _⟩ := h1
    refine ⟨fun e => .inl ?_, fun e => .inl ?_⟩
    · subst e
      rcases h2 with h | h
      · rw [getD_of hl] at h; simpa using h
      · exact h.elim
    · subst e
      rcases h3 with h | h
      · rw [getD_of hl] at h; simpa using h
      · exact h.elim
  · have := sum_set s.by1 x.toNat [] hlt
    rw [getD_of hl] at this
    simp only [List.length_nil] at this
    unfold Wt.sz
    show ((s.by1.set x.toNat []).map List.length).sum + s.whole.length + (list.length - 0) ≤ _
    omega
/-- Nothing is done. -/
theorem FeI.skip {i : Int} (hI : FeI t s t' s' x e0 list k) (hk : list[k]? = some i) (h : ∀ c ∈ s'.cls, (c.n : Int) = i → c.whole = false → ∀ a b r, c.lits = a :: b :: r → a ≠ x ∧ b ≠ x) : FeI t s t' s' x e0 list (k + 1) := by
  have wi := hI.wi
  refine ⟨hI.ext, hI.ceq, ⟨wi.vars, wi.byl, wi.num, wi.nod, wi.rng, wi.nodl, wi.who, fun c hc hw => ?_, wi.dn⟩, hI.ri, hI.dn, hI.ev, fun c hc hw a b r hr => ?_, by have := hI.sz; omega⟩
  · obtain ⟨a, b, r, h1, h2, h3, h4, h5⟩ := wi.wat c hc hw
    have hh := h c hc
    refine ⟨a, b, r, h1, ?_, ?_, h4, h5⟩
    · rcases h2 with h2 | ⟨e, h2⟩
      · exact .inl h2
      · exact .inr ⟨e, in_drop hk h2 (fun e2 => (hh e2 hw a b r h1).1 e)⟩
    · rcases h3 with h3 | ⟨e, h3⟩
      · exact .inl h3
      · exact .inr ⟨e, in_drop hk h3 (fun e2 => (hh e2 hw a b r h1).2 e)⟩
  · obtain ⟨p1, p2⟩ := hI.pro c hc hw a b r hr
    have hh := h c hc
    refine ⟨fun e => ?_, fun e => ?_⟩
    · rcases p1 e with h1 | h1
      · exact .inl (in_drop hk h1 (fun e2 => (hh e2 hw a b r hr).1 e))
      · exact .inr h1
    · rcases p2 e with h1 | h1
      · exact .inl (in_drop hk h1 (fun e2 => (hh e2 hw a b r hr).2 e))
      · exact .inr h1
/-- Another clause keeps its place. -/
theorem AtW.next {by2 : List (List Int)} {d : Wc} {i a : Int} (hk : list[k]? = some i) (hne : (d.n : Int) ≠ i) (hm : ∀ a : Nat, (d.n : Int) ∈ s'.by1.getD a [] → (d.n : Int) ∈ by2.getD a []) (h : AtW s' (Xk x list k) a d.n) : AtW { s' with by1 := by2 } (Xk x list (k + 1)) a d.n := by
  rcases h with h | ⟨e, h⟩
  · exact .inl (hm _ h)
  · exact .inr ⟨e, in_drop hk h hne⟩
theorem pro_next {cls2 : List Wc} {c : Wc} (hI : FeI t s t' s' x e0 list k) (hk : list[k]? = some (c.n : Int)) (ho : ∀ d ∈ cls2, d.n ≠ c.n → d ∈ s'.cls) (hc : ∀ d ∈ cls2, d.n = c.n → d.whole = false → ∀ a b r, d.lits = a :: b :: r → (a = x → Tru t' e0 b) ∧ (b = x → Tru t' e0 a)) :
    ∀ d ∈ cls2, d.whole = false → ∀ a b r, d.lits = a :: b :: r → (a = x → (d.n : Int) ∈ list.drop (k + 1) ∨ Tru t' e0 b) ∧ (b = x → (d.n : Int) ∈ list.drop (k + 1) ∨ Tru t' e0 a) := by
  intro d hd hw a b r hr
  by_cases e : d.n = c.n
  · obtain ⟨h1, h2⟩ := hc d hd e hw a b r hr
    exact ⟨fun e => .inr (h1 e), fun e => .inr (h2 e)⟩
  · obtain ⟨h1, h2⟩ := hI.pro d (ho d hd e) hw a b r hr
    refine ⟨fun e1 => ?_, fun e1 => ?_⟩
    · rcases h1 e1 with h | h
      · exact .inl (in_drop hk h (by omega))
      · exact .inr h
    · rcases h2 e1 with h | h
      · exact .inl (in_drop hk h (by omega))
      · exact .inr h
/-- Its other watch is moved. -/
theorem FeI.yes {c : Wc} {a y : Int} {rest : List Int} {j : Nat} (hI : FeI t s t' s' x e0 list k) (hf : t'.Fine) (hk : list[k]? = some (c.n : Int)) (hc : c ∈ s'.cls) (hcw : c.whole = false) (hl : c.lits = x :: a :: rest ∨ c.lits = a :: x :: rest) (hx : 0 ≤ x) (hvx : t'.has (notOf x)) (hj : rest[j]? = some y) (hv : 0 ≤ t'.val y) :
    FeI t s t' { s'.putC c.n (a :: y :: rest.set j x) c.whole with by1 := addBy s'.by1 y c.n } x e0 list (k + 1) := by
  have wi := hI.wi
  have hnd := wi.nodl c hc
  have hrg := wi.rng c hc
  have hpm : (a :: x :: rest).Perm c.lits := by
    rcases hl with h | h
    · rw [h]; exact List.Perm.swap _ _ _
    · rw [h]
  have hp : (a :: y :: rest.set j x).Perm c.lits := by
    have e : ((a :: x :: rest).set 1 y).set (j + 2) x = a :: y :: rest.set j x := rfl
    rw [← e]
    exact (swap_perm (a := 1) (b := j + 2) rfl (by simpa using hj)).trans hpm
  have hax : a ≠ x := by
    have := (hpm.nodup_iff).2 hnd
    simp only [List.nodup_cons, List.mem_cons, not_or] at this
    exact this.1.1
  have hy0 := hrg y (hpm.mem_iff.1 (by simp [List.mem_of_getElem? hj]))
  have ha0 := hrg a (hpm.mem_iff.1 (by simp))
  have hbyl := wi.byl
  have hyx : y ≠ x := fun e => by
    have := (hf.val_neg hx).2 hvx
    rw [e] at hv; omega
  obtain ⟨at1, ok1⟩ : AtW s' (Xk x list k) a c.n ∧ Okw t' s' a x := by
    obtain ⟨a', b', r', h1, h2, h3, h4, h5⟩ := wi.wat c hc hcw
    rcases hl with h | h
    · rw [h] at h1
      simp only [List.cons.injEq] at h1
      obtain ⟨rfl, rfl, _⟩ := h1
      exact ⟨h3, h5⟩
    · rw [h] at h1
      simp only [List.cons.injEq] at h1
      obtain ⟨rfl, rfl, _⟩ := h1
      exact ⟨h2, h4⟩
  refine ⟨hI.ext, hI.ceq.trans (CEq.set wi.nod hc hp), wi.put (X' := Xk x list (k + 1)) (by2 := addBy s'.by1 y c.n) (wh := s'.whole) hc hp (by rw [addBy_len]) (fun d hd hne z hz => AtW.next hk (by omega) (fun a h => addBy_mono h) hz) (fun _ h => h) (fun h => by rw [hcw] at h; cases h)
    (fun _ => ⟨a, y, rest.set j x, rfl, ?_, .inl (addBy_mem (by omega)), ?_, Okw.of_val hf hy0.1 hv⟩), hI.ri.ceq (CEq.set wi.nod hc hp), hI.dn, hI.ev, pro_next hI hk (fun d hd hne => ?_) (fun d hd he hw a' b' r' hr => ?_), ?_⟩
  · rcases at1 with h | ⟨e, _⟩
    · exact .inl (addBy_mono h)
    · exact absurd e hax
  · intro j' e hl' he hx'
    obtain ⟨f, hf1, hf2, _⟩ := ok1 j' e hl' he hx'
    exact (hf.not ⟨f, hf1, hf2⟩ hvx).elim
  · rcases mem_setC hd with ⟨d', h1, h2, rfl⟩ | ⟨h1, h2⟩
    · exact absurd h2 hne
    · exact h1
  · rcases mem_setC hd with ⟨d', h1, h2, rfl⟩ | ⟨h1, h2⟩
    · simp only [List.cons.injEq] at hr
      obtain ⟨rfl, rfl, _⟩ := hr
      exact ⟨fun e => absurd e hax, fun e => absurd e hyx⟩
    · exact absurd he h2
  · have h1 := hI.sz
    have hlt := (List.getElem?_eq_some_iff.1 hk).1
    have h2 := sz_add (s := s'.putC c.n (a :: y :: rest.set j x) c.whole) (x := y) (n := c.n) (by show y.toNat < s'.by1.length; omega)
    have e : (s'.putC c.n (a :: y :: rest.set j x) c.whole).sz = s'.sz := rfl
    have e2 : Wt.sz { s'.putC c.n (a :: y :: rest.set j x) c.whole with by1 := addBy s'.by1 y c.n } = Wt.sz { s'.putC c.n (a :: y :: rest.set j x) c.whole with by1 := addBy (s'.putC c.n (a :: y :: rest.set j x) c.whole).by1 y c.n } := rfl
    rw [e2, h2, e]
    omega
/-- It is not moved: its literals are in another order. -/
theorem FeI.no {c : Wc} {a : Int} {rest : List Int} (hI : FeI t s t' s' x e0 list k) (hk : list[k]? = some (c.n : Int)) (hc : c ∈ s'.cls) (hcw : c.whole = false) (hl : c.lits = x :: a :: rest ∨ c.lits = a :: x :: rest) :
    FeI t s t' (s'.putC c.n (a :: x :: rest) c.whole) x e0 list k ∧ (a :: x :: rest).Perm c.lits ∧ a ≠ x := by
  have wi := hI.wi
  have hnd := wi.nodl c hc
  have hp : (a :: x :: rest).Perm c.lits := by
    rcases hl with h | h
    · rw [h]; exact List.Perm.swap _ _ _
    · rw [h]
  have hax : a ≠ x := by
    have := (hp.nodup_iff).2 hnd
    simp only [List.nodup_cons, List.mem_cons, not_or] at this
    exact this.1.1
  refine ⟨⟨hI.ext, hI.ceq.trans (CEq.set wi.nod hc hp), wi.put (X' := Xk x list k) (by2 := s'.by1) (wh := s'.whole) hc hp rfl (fun d hd hne z hz => hz) (fun _ h => h) (fun h => by rw [hcw] at h; cases h) (fun _ => ⟨a, x, rest, rfl, ?_⟩), hI.ri.ceq (CEq.set wi.nod hc hp), hI.dn, hI.ev, fun d hd hw a' b' r' hr => ?_, hI.sz⟩, hp, hax⟩
  · obtain ⟨a', b', r', h1, h2, h3, h4, h5⟩ := wi.wat c hc hcw
    rcases hl with h | h
    · rw [h] at h1
      simp only [List.cons.injEq] at h1
      obtain ⟨rfl, rfl, _⟩ := h1
      exact ⟨h3, h2, h5, h4⟩
    · rw [h] at h1
      simp only [List.cons.injEq] at h1
      obtain ⟨rfl, rfl, _⟩ := h1
      exact ⟨h2, h3, h4, h5⟩
  · rcases mem_setC hd with ⟨d', h1, h2, rfl⟩ | ⟨h1, h2⟩
    · have : ((d'.n : Int)) ∈ list.drop k := by rw [drop_at hk, h2]; exact List.mem_cons_self
      exact ⟨fun _ => .inl this, fun _ => .inl this⟩
    · exact hI.pro d h1 hw a' b' r' hr
/-- What is left is assigned. -/
theorem FeI.asg {c : Wc} {a : Int} (hI : FeI t s t' s' x e0 list k) (hf : t'.Fine) (hc : c ∈ s'.cls) (ha : a ∈ c.lits) (h : ∀ l ∈ c.lits, l ≠ a → t'.val l < 0) (hc0 : 0 ≤ t'.count) (hcc : t'.count ≤ 1000000000000) : FeI t s (t'.assign a c.n) s' x e0 list k := by
  obtain ⟨new, nb, hx, h1, h2⟩ := Ext.assign t' (l := a) (r := c.n) (by omega) hc0 hcc
  obtain ⟨n0, b0, hx0⟩ := hI.ext
  refine ⟨⟨_, _, hx0.trans hx⟩, hI.ceq, hI.wi.ext hx hf, RI.one hf hI.ri hc ha (fun l hl => (hI.wi.rng c hc l hl).1) h hc0 hcc, hI.dn, hI.ev, fun d hd hw a' b' r' hr => ?_, hI.sz⟩
  obtain ⟨p1, p2⟩ := hI.pro d hd hw a' b' r' hr
  refine ⟨fun e => ?_, fun e => ?_⟩
  · rcases p1 e with g | g
    · exact .inl g
    · exact .inr (g.ext hx)
  · rcases p2 e with g | g
    · exact .inl g
    · exact .inr (g.ext hx)
/-- It is to be looked at whole again. -/
theorem FeI.look {c : Wc} (hI : FeI t s t' s' x e0 list k) (hk : list[k]? = some (c.n : Int)) (hc : c ∈ s'.cls) (hcw : c.whole = false) : FeI t s t' (s'.look c) x e0 list (k + 1) := by
  have wi := hI.wi
  have e : s'.look c = { s' with cls := setC s'.cls c.n (fun d => { d with lits := c.lits, whole := true }), by1 := s'.by1, whole := s'.whole ++ [(c.n : Int)] } := by unfold Wt.look; rw [hcw]; rfl
  rw [e]
  refine ⟨hI.ext, hI.ceq.trans (CEq.set wi.nod hc (List.Perm.refl _)), wi.put (X' := Xk x list (k + 1)) (by2 := s'.by1) (wh := s'.whole ++ [(c.n : Int)]) hc (List.Perm.refl _) rfl (fun d hd hne z hz => AtW.next hk (by omega) (fun a h => h) hz) (fun _ h => List.mem_append_left _ h) (fun _ => by simp) (fun h => by cases h), hI.ri.ceq (CEq.set wi.nod hc (List.Perm.refl _)), hI.dn, hI.ev, pro_next hI hk (fun d hd hne => ?_) (fun d hd he hw a' b' r' hr => ?_), ?_⟩
  · rcases mem_setC hd with ⟨d', h1, h2, rfl⟩ | ⟨h1, h2⟩
    · exact absurd h2 hne
    · exact h1
  · rcases mem_setC hd with ⟨d', h1, h2, rfl⟩ | ⟨h1, h2⟩
    · cases hw
    · exact absurd he h2
  · have h1 := hI.sz
    have hlt := (List.getElem?_eq_some_iff.1 hk).1
    unfold Wt.sz at h1 ⊢
    simp only [List.length_append, List.length_singleton]
    omega
/-- It goes on to watch. -/
theorem FeI.stay {c : Wc} {a : Int} {rest : List Int} (hI : FeI t s t' s' x e0 list k) (hf : t'.Fine) (hk : list[k]? = some (c.n : Int)) (hc : c ∈ s'.cls) (hcw : c.whole = false) (hl : c.lits = a :: x :: rest) (hx : 0 ≤ x) (he : e0 ∈ t'.L) (hex : e0.lit = notOf x) (hta : Tru t' e0 a) : FeI t s t' { s' with by1 := addBy s'.by1 x c.n } x e0 list (k + 1) := by
  have wi := hI.wi
  have hnd := wi.nodl c hc
  rw [hl] at hnd
  have hax : a ≠ x := by
    simp only [List.nodup_cons, List.mem_cons, not_or] at hnd
    exact hnd.1.1
  have hrg := wi.rng c hc
  rw [hl] at hrg
  have ha0 := hrg a (by simp)
  have hx0 := hrg x (by simp)
  have hbyl := wi.byl
  have hva : 0 < t'.val a := (hf.val_pos ha0.1).2 (by obtain ⟨f, h1, h2, _⟩ := hta; exact ⟨f, h1, h2⟩)
  have hoth : ∀ d ∈ s'.cls, d.n = c.n → d = c := fun d hd e => uniq_n wi.nod hd hc e
  refine ⟨hI.ext, hI.ceq, ⟨wi.vars, by show (addBy s'.by1 x c.n).length = _; rw [addBy_len]; exact wi.byl, wi.num, wi.nod, wi.rng, wi.nodl, wi.who, fun d hd hw => ?_, wi.dn⟩, hI.ri, hI.dn, hI.ev, pro_next hI hk (fun d hd _ => hd) (fun d hd hdn hw a' b' r' hr => ?_), ?_⟩
  · obtain ⟨a', b', r', h1, h2, h3, h4, h5⟩ := wi.wat d hd hw
    by_cases e : d.n = c.n
    · have := hoth d hd e
      subst this
      rw [hl] at h1
      simp only [List.cons.injEq] at h1
      obtain ⟨rfl, rfl, rfl⟩ := h1
      refine ⟨a, x, rest, hl, ?_, .inl (addBy_mem (by omega)), Okw.of_val hf ha0.1 (by omega), ?_⟩
      · rcases h2 with h2 | ⟨e2, _⟩
        · exact .inl (addBy_mono h2)
        · exact absurd e2 hax
      · intro j e1 _ he1 hx1
        obtain ⟨i0, hi0⟩ := List.mem_iff_getElem?.1 he
        have := (hf.uniq he1 hi0 (by rw [hx1, hex])).2
        subst this
        exact hta
    · exact ⟨a', b', r', h1, AtW.next hk (by omega) (fun a h => addBy_mono h) h2, AtW.next hk (by omega) (fun a h => addBy_mono h) h3, h4, h5⟩
  · have := hoth d hd hdn
    subst this
    rw [hl] at hr
    simp only [List.cons.injEq] at hr
    obtain ⟨rfl, rfl, _⟩ := hr
    exact ⟨fun e => absurd e hax, fun _ => hta⟩
  · have h1 := hI.sz
    have hlt := (List.getElem?_eq_some_iff.1 hk).1
    have h2 := sz_add (s := s') (x := x) (n := c.n) (by omega)
    rw [h2]
    omega
/-- All were looked at. -/
theorem FeI.fin (hI : FeI t s t' s' x e0 list list.length) : FeR t s t' s' x e0 (-1) := by
  have wi := hI.wi
  have hX : ∀ a n : Int, AtW s' (Xk x list list.length) a n → AtW s' X0 a n := fun a n h => by
    rcases h with h | ⟨_, h⟩
    · exact .inl h
    · simp at h
  refine ⟨hI.ext, hI.ceq, ⟨wi.vars, wi.byl, wi.num, wi.nod, wi.rng, wi.nodl, wi.who, fun c hc hw => ?_, wi.dn⟩, hI.ri, hI.dn, hI.ev, by have := hI.sz; omega, .inl ⟨rfl, fun c hc hw a b r hr => ?_⟩⟩
  · obtain ⟨a, b, r, h1, h2, h3, h4, h5⟩ := wi.wat c hc hw
    exact ⟨a, b, r, h1, hX _ _ h2, hX _ _ h3, h4, h5⟩
  · obtain ⟨p1, p2⟩ := hI.pro c hc hw a b r hr
    refine ⟨fun e => ?_, fun e => ?_⟩
    · rcases p1 e with h | h
      · simp at h
      · exact h
    · rcases p2 e with h | h
      · simp at h
      · exact h
/-- A clause does not hold. -/
theorem FeI.conf {bad : Int} (hI : FeI t s t' s' x e0 list k) (hx : 0 ≤ x) (hxl : x.toNat < s'.by1.length) (hk : k ≤ list.length) (hb : 0 ≤ bad ∧ ∃ c ∈ s'.cls, (c.n : Int) = bad ∧ ∀ x ∈ c.lits, t'.val x < 0) :
    FeR t s t' { s' with by1 := s'.by1.set x.toNat (s'.by1.getD x.toNat [] ++ list.drop k) } x e0 bad := by
  have wi := hI.wi
  have e1 : (s'.by1.set x.toNat (s'.by1.getD x.toNat [] ++ list.drop k)).getD x.toNat [] = s'.by1.getD x.toNat [] ++ list.drop k := by
    rw [List.getD_eq_getElem?_getD, List.getElem?_set_self hxl]; rfl
  have hX : ∀ a n : Int, 0 ≤ a → AtW s' (Xk x list k) a n → AtW { s' with by1 := s'.by1.set x.toNat (s'.by1.getD x.toNat [] ++ list.drop k) } X0 a n := fun a n ha h => by
    refine .inl ?_
    show n ∈ (s'.by1.set x.toNat (s'.by1.getD x.toNat [] ++ list.drop k)).getD a.toNat []
    rcases h with h | ⟨e, h⟩
    · by_cases e : a = x
      · subst e
        rw [e1]
        exact List.mem_append_left _ h
      · rw [List.getD_eq_getElem?_getD, List.getElem?_set_ne (by omega), ← List.getD_eq_getElem?_getD]
        exact h
    · subst e
      rw [e1]
      exact List.mem_append_right _ h
  refine ⟨hI.ext, hI.ceq, ⟨wi.vars, by show (s'.by1.set x.toNat _).length = _; rw [List.length_set]; exact wi.byl, wi.num, wi.nod, wi.rng, wi.nodl, wi.who, fun c hc hw => ?_, wi.dn⟩, hI.ri, hI.dn, hI.ev, ?_, .inr hb⟩
  · obtain ⟨a, b, r, h1, h2, h3, h4, h5⟩ := wi.wat c hc hw
    have hr := wi.rng c hc
    rw [h1] at hr
    exact ⟨a, b, r, h1, hX _ _ (hr a (by simp)).1 h2, hX _ _ (hr b (by simp)).1 h3, h4, h5⟩
  · have h1 := hI.sz
    have := sum_set s'.by1 x.toNat (s'.by1.getD x.toNat [] ++ list.drop k) hxl
    rw [List.length_append, List.length_drop] at this
    unfold Wt.sz at h1 ⊢
    show ((s'.by1.set x.toNat (s'.by1.getD x.toNat [] ++ list.drop k)).map List.length).sum + s'.whole.length ≤ _
    omega
end
end Go.Proofs.Ytnmbgfonlpjicaa
