import Derived.Test.YtnmbgfonlpjicaaW11p
namespace Go.Proofs.Ytnmbgfonlpjicaa
open Go.Mw
set_option linter.unusedVariables false
set_option linter.unusedSimpArgs false
set_option maxRecDepth 100000
attribute [local irreducible] M.val M.unit M.next M.pick M.new M.nilCheck M.load1 M.loadA M.store M.fieldAddr M.indexSl M.indexArr M.slice M.makeSlice M.buildSlice M.len M.lenS M.cap M.append M.extract M.conv M.not M.neg M.bin M.shift M.eqB M.eqNil M.call M.callv M.gd M.share M.cond M.loop M.draw pureW readW Ret
/-! ### a clause is looked at whole: no program here -/
theorem mem_setC {cls : List Wc} {n : Nat} {f : Wc → Wc} {d : Wc} (h : d ∈ setC cls n f) : (∃ c ∈ cls, c.n = n ∧ d = f c) ∨ (d ∈ cls ∧ d.n ≠ n) := by
  unfold setC at h
  obtain ⟨c, hc, h⟩ := List.mem_map.1 h
  by_cases e : c.n = n
  · rw [if_pos e] at h
    exact .inl ⟨c, hc, e, h.symm⟩
  · rw [if_neg e] at h
    subst h
    exact .inr ⟨hc, e⟩
theorem uniq_n {cls : List Wc} (hn : (cls.map Wc.n).Nodup) {c d : Wc} (hc : c ∈ cls) (hd : d ∈ cls) (e : c.n = d.n) : c = d := by
  have h1 := get_of (n := 0) hn hc
  have h2 := get_of (n := 0) hn hd
  rw [← e, h1] at h2
  cases h2; rfl
theorem setC_none {cls : List Wc} {n : Nat} {f : Wc → Wc} (h : ∀ c ∈ cls, c.n ≠ n) : setC cls n f = cls := by
  unfold setC
  conv => rhs; rw [← List.map_id cls]
  apply List.map_congr_left
  intro c hc
  rw [if_neg (h c hc)]; rfl
def wc (cls : List Wc) : Nat := cls.countP (·.whole)
theorem wc_le (cls : List Wc) : wc cls ≤ cls.length := List.countP_le_length
theorem wc_set {c : Wc} {L : List Int} {b : Bool} : ∀ {cls : List Wc}, (cls.map Wc.n).Nodup → c ∈ cls → wc (setC cls c.n (fun d => { d with lits := L, whole := b })) + (if c.whole then 1 else 0) = wc cls + (if b then 1 else 0)
  | [], _, h => by simp at h
  | d :: cls, hn, h => by
    have hn0 := hn
    rw [List.map_cons, List.nodup_cons] at hn
    have e0 : setC (d :: cls) c.n (fun d => { d with lits := L, whole := b }) = (if d.n = c.n then { d with lits := L, whole := b } else d) :: setC cls c.n (fun d => { d with lits := L, whole := b }) := rfl
    rw [e0]
    unfold wc
    rw [List.countP_cons, List.countP_cons]
    by_cases e : d.n = c.n
    · have hd : d = c := uniq_n hn0 List.mem_cons_self h e
      subst hd
      rw [setC_none (fun c hc e2 => hn.1 (by rw [← e2]; exact List.mem_map_of_mem hc))]
      simp only [if_true]
      omega
    · rw [if_neg e]
      have hc : c ∈ cls := by
        rcases List.mem_cons.1 h with h | h
        · rw [h] at e; exact absurd rfl e
        · exact h
      have ih := wc_set (L := L) (b := b) hn.2 hc
      unfold wc at ih
      omega
theorem addBy_mono {l : List (List Int)} {x m : Int} {a : Nat} {n : Int} (h : n ∈ l.getD a []) : n ∈ (addBy l x m).getD a [] := by
  unfold addBy
  by_cases e : x.toNat = a
  · subst e
    by_cases hl : x.toNat < l.length
    · have e1 : (l.set x.toNat (l.getD x.toNat [] ++ [m])).getD x.toNat [] = l.getD x.toNat [] ++ [m] := by
        rw [List.getD_eq_getElem?_getD, List.getElem?_set_self hl]; rfl
      rw [e1]
      exact List.mem_append_left _ h
    · rw [List.getD_eq_getElem?_getD, List.getElem?_eq_none (by omega)] at h
      simp at h
  · rw [List.getD_eq_getElem?_getD, List.getElem?_set_ne e, ← List.getD_eq_getElem?_getD]
    exact h
theorem addBy_mem {l : List (List Int)} {x m : Int} (h : x.toNat < l.length) : m ∈ (addBy l x m).getD x.toNat [] := by
  unfold addBy
  rw [List.getD_eq_getElem?_getD, List.getElem?_set_self h]
  simp
section
variable {t t' : Tr} {s s' : Wt} {X X' : Int → Int → Prop}
theorem cls_setC_n {cls : List Wc} {n : Nat} {f : Wc → Wc} (hf : ∀ c, (f c).n = c.n) : (setC cls n f).map Wc.n = cls.map Wc.n := by
  unfold setC
  rw [List.map_map]
  apply List.map_congr_left
  intro c _
  simp only [Function.comp]
  split
  · rw [hf]
  · rfl
/-- One clause is changed, the lists of watches grow. -/
theorem WI.put (wi : WI t s X) {c : Wc} (hc : c ∈ s.cls) {L : List Int} {b : Bool} {by2 : List (List Int)} {wh : List Int} (hp : L.Perm c.lits) (hlen : by2.length = s.by1.length)
    (hmono : ∀ d ∈ s.cls, d.n ≠ c.n → ∀ a : Int, AtW s X a d.n → AtW { s with by1 := by2 } X' a d.n) (hwm : ∀ x ∈ s.whole, x ∈ wh) (hb : b = true → (c.n : Int) ∈ wh)
    (hw : b = false → ∃ a b' r, L = a :: b' :: r ∧ AtW { s with by1 := by2 } X' a c.n ∧ AtW { s with by1 := by2 } X' b' c.n ∧ Okw t s a b' ∧ Okw t s b' a) : WI t { s with cls := setC s.cls c.n (fun d => { d with lits := L, whole := b }), by1 := by2, whole := wh } X' := by
  refine ⟨wi.vars, by show by2.length = _; rw [hlen]; exact wi.byl, fun d hd => ?_, ?_, fun d hd => ?_, fun d hd => ?_, fun d hd hw1 => ?_, fun d hd hw1 => ?_, wi.dn⟩
  · rcases mem_setC hd with ⟨d', h1, h2, rfl⟩ | ⟨h1, h2⟩
    · exact wi.num d' h1
    · exact wi.num d h1
  · show ((setC s.cls c.n _).map Wc.n).Nodup
    rw [cls_setC_n (f := fun d => { d with lits := L, whole := b }) (fun d => rfl)]
    exact wi.nod
  · rcases mem_setC hd with ⟨d', h1, h2, rfl⟩ | ⟨h1, h2⟩
    · have := uniq_n wi.nod h1 hc h2
      subst this
      exact fun x hx => wi.rng _ hc x (hp.mem_iff.1 hx)
    · exact wi.rng d h1
  · rcases mem_setC hd with ⟨d', h1, h2, rfl⟩ | ⟨h1, h2⟩
    · have := uniq_n wi.nod h1 hc h2
      subst this
      exact hp.nodup_iff.2 (wi.nodl _ hc)
    · exact wi.nodl d h1
  · rcases mem_setC hd with ⟨d', h1, h2, rfl⟩ | ⟨h1, h2⟩
    · show (d'.n : Int) ∈ wh
      rw [h2]
      exact hb hw1
    · exact hwm _ (wi.who d h1 hw1)
  · rcases mem_setC hd with ⟨d', h1, h2, rfl⟩ | ⟨h1, h2⟩
    · obtain ⟨a, b', r, g1, g2, g3, g4, g5⟩ := hw hw1
      refine ⟨a, b', r, g1, ?_, ?_, g4, g5⟩
      · show AtW _ X' a (d'.n : Int)
        rw [h2]; exact g2
      · show AtW _ X' b' (d'.n : Int)
        rw [h2]; exact g3
    · obtain ⟨a, b', r, g1, g2, g3, g4, g5⟩ := wi.wat d h1 hw1
      exact ⟨a, b', r, g1, hmono d h1 h2 a g2, hmono d h1 h2 b' g3, g4, g5⟩
theorem AtW.mono {by2 : List (List Int)} {a n : Int} (h : AtW s X a n) (hm : n ∈ s.by1.getD a.toNat [] → n ∈ by2.getD a.toNat []) (hX : X a n → X' a n ∨ n ∈ by2.getD a.toNat []) : AtW { s with by1 := by2 } X' a n := by
  rcases h with h | h
  · exact .inl (hm h)
  · rcases hX h with h | h
    · exact .inr h
    · exact .inl h
/-- Behind a look at a whole clause. -/
theorem who_step (wi : WI t s X) (hf : t.Fine) {c : Wc} (hc : c ∈ s.cls) (hcw : c.whole = true) {v : Value} (h : WhoP t s c v t' s') (hc0 : 0 ≤ t.count) (hcc : t.count ≤ 1000000000000) :
    (∃ new nb, Ext t t' new nb ∧ (new = [] → t' = t)) ∧ CEq s.cls s'.cls ∧ WI t' s' X ∧ (RI t s.cls → RI t' s'.cls) ∧ s'.whole = s.whole ∧ s'.done = s.done ∧ s'.ever = s.ever ∧ s'.cls.length = s.cls.length ∧
    ∃ (ok more : Bool) (c' : Wc), (∀ d ∈ s'.cls, d = c' ∨ (d ∈ s.cls ∧ d.n ≠ c.n)) ∧ v = .tuple #[.bool ok, .bool more] ∧ s'.get c.n = some c' ∧ c'.n = c.n ∧ c'.lits.Perm c.lits ∧ s'.sz + wc s'.cls + (if c'.whole then 1 else 0) = s.sz + wc s.cls + 1 ∧
      (ok = false → more = false ∧ c'.whole = true ∧ t' = t ∧ ∀ x ∈ c.lits, t.val x < 0) ∧ (ok = true → more = false → t' = t ∧ (c'.whole = true → ∃ x ∈ c.lits, t.has x)) ∧ (more = true → t.L.length < t'.L.length) := by
  have hg := wi.get hc
  have hoth : ∀ (L : List Int) (b : Bool) (d : Wc), d ∈ setC s.cls c.n (fun d => { d with lits := L, whole := b }) → d = ⟨c.n, L, b⟩ ∨ (d ∈ s.cls ∧ d.n ≠ c.n) := fun L b d hd => by
    rcases mem_setC hd with ⟨d', h1, h2, rfl⟩ | h1
    · rw [h2]; exact .inl rfl
    · exact .inr h1
  have hcl : ∀ x ∈ c.lits, 0 ≤ x ∧ x < 2 * t.vars := wi.rng c hc
  have hbyl := wi.byl
  cases h with
  | two a b rest hp ha hb =>
    have ha0 := hcl a (hp.mem_iff.1 (by simp))
    have hb0 := hcl b (hp.mem_iff.1 (by simp))
    have hwc := wc_set (L := a :: b :: rest) (b := false) wi.nod hc
    rw [hcw] at hwc
    have hsz1 := sz_add (s := s) (x := a) (n := c.n) (by omega)
    have hsz2 := sz_add (s := { s with by1 := addBy s.by1 a c.n }) (x := b) (n := c.n) (by show b.toNat < (addBy s.by1 a c.n).length; rw [addBy_len]; omega)
    have hla : a.toNat < s.by1.length := by omega
    have hlb : b.toNat < (addBy s.by1 a c.n).length := by rw [addBy_len]; omega
    refine ⟨⟨[], [], Ext.refl t, fun _ => rfl⟩, CEq.set wi.nod hc hp, ?_, fun r => r.ceq (CEq.set wi.nod hc hp), rfl, rfl, rfl, by simp [Wt.putC, setC], true, false, ⟨c.n, a :: b :: rest, false⟩, hoth _ _, rfl, get_put hg, rfl, hp, ?_, by simp, by simp, by simp⟩
    · refine wi.put (X' := X) (by2 := addBy (addBy s.by1 a c.n) b c.n) (wh := s.whole) hc hp (by rw [addBy_len, addBy_len]) (fun d hd hne y hy => hy.mono (fun h => addBy_mono (addBy_mono h)) (fun h => .inl h)) (fun x hx => hx) (by simp) (fun _ => ⟨a, b, rest, rfl, .inl ?_, .inl ?_, Okw.of_val hf ha0.1 ha, Okw.of_val hf hb0.1 hb⟩)
      · exact addBy_mono (addBy_mem hla)
      · exact addBy_mem hlb
    · have e : Wt.sz { s.putC c.n (a :: b :: rest) false with by1 := addBy (addBy s.by1 a c.n) b c.n } = Wt.sz { s with by1 := addBy (addBy s.by1 a c.n) b c.n } := rfl
      have e2 : wc ({ s.putC c.n (a :: b :: rest) false with by1 := addBy (addBy s.by1 a c.n) b c.n } : Wt).cls = wc (setC s.cls c.n (fun d => { d with lits := a :: b :: rest, whole := false })) := rfl
      rw [e, e2]
      simp only [if_true, Bool.false_eq_true, if_false] at hwc ⊢
      simp only at hsz2
      omega
  | none L hp hno =>
    have hwc := wc_set (L := L) (b := c.whole) wi.nod hc
    refine ⟨⟨[], [], Ext.refl t, fun _ => rfl⟩, CEq.set wi.nod hc hp, ?_, fun r => r.ceq (CEq.set wi.nod hc hp), rfl, rfl, rfl, by simp [Wt.putC, setC], false, false, ⟨c.n, L, c.whole⟩, hoth _ _, rfl, get_put hg, rfl, hp, ?_, fun _ => ⟨rfl, hcw, rfl, fun x hx => hno x (hp.mem_iff.2 hx)⟩, by simp, by simp⟩
    · exact wi.put (X' := X) (by2 := s.by1) (wh := s.whole) hc hp rfl (fun d hd hne y hy => hy) (fun x hx => hx) (fun _ => wi.who c hc hcw) (fun h => by rw [hcw] at h; cases h)
    · have e : Wt.sz (s.putC c.n L c.whole) = s.sz := rfl
      have e2 : wc (s.putC c.n L c.whole).cls = wc (setC s.cls c.n (fun d => { d with lits := L, whole := c.whole })) := rfl
      rw [e, e2]
      simp only [hcw, if_true] at hwc ⊢
      omega
  | one a rest hp ha hno =>
    have ha0 := hcl a (hp.mem_iff.1 (by simp))
    have hwc := wc_set (L := a :: rest) (b := c.whole) wi.nod hc
    obtain ⟨new, nb, hx, h1, h2⟩ := Ext.assign t (l := a) (r := c.n) (by omega) hc0 hcc
    have wi1 : WI t (s.putC c.n (a :: rest) c.whole) X := wi.put (X' := X) (by2 := s.by1) (wh := s.whole) hc hp rfl (fun d hd hne y hy => hy) (fun x hx => hx) (fun _ => wi.who c hc hcw) (fun h => by rw [hcw] at h; cases h)
    have hc1 : (⟨c.n, a :: rest, c.whole⟩ : Wc) ∈ (s.putC c.n (a :: rest) c.whole).cls := (get_some (get_put hg)).1
    have hnd := wi1.nodl _ hc1
    refine ⟨⟨new, nb, hx, fun hn => ?_⟩, CEq.set wi.nod hc hp, wi1.ext hx hf, fun r => RI.one hf (r.ceq (CEq.set wi.nod hc hp)) hc1 (by simp) (fun l hl => (wi1.rng _ hc1 l hl).1) (fun l hl hne => ?_) hc0 hcc, rfl, rfl, rfl, by simp [Wt.putC, setC], true, t.may a, ⟨c.n, a :: rest, c.whole⟩, hoth _ _, rfl, get_put hg, rfl, hp, ?_, by simp, fun _ hm => ⟨h2 hm, fun _ => ⟨a, hp.mem_iff.1 (by simp), ?_⟩⟩, fun hm => ?_⟩
    · cases hm : t.may a with
      | false => exact h2 hm
      | true => rw [h1 hm] at hn; cases hn
    · rcases List.mem_cons.1 hl with e | e
      · exact absurd e hne
      · exact hno l e
    · have e : Wt.sz (s.putC c.n (a :: rest) c.whole) = s.sz := rfl
      have e2 : wc (s.putC c.n (a :: rest) c.whole).cls = wc (setC s.cls c.n (fun d => { d with lits := a :: rest, whole := c.whole })) := rfl
      rw [e, e2]
      simp only [hcw, if_true] at hwc ⊢
      omega
    · rw [hf.may ha0.1 ha0.2] at hm
      have : ¬ t.val a = 0 := by simpa using hm
      exact (hf.val_pos ha0.1).1 (by omega)
    · rw [h1 hm] at hx
      rw [hx.L]; simp
end
end Go.Proofs.Ytnmbgfonlpjicaa
