import Derived.Test.YtnmbgfonlpjicaaAn12p
import Derived.Test.YtnmbgfonlpjicaaUnit06P
namespace Go.Proofs.Ytnmbgfonlpjicaa
open Go.Mw
set_option linter.unusedVariables false
set_option linter.unusedSimpArgs false
set_option maxRecDepth 100000
attribute [local irreducible] M.val M.unit M.next M.pick M.new M.nilCheck M.load1 M.loadA M.store M.fieldAddr M.indexSl M.indexArr M.slice M.makeSlice M.buildSlice M.len M.lenS M.cap M.append M.extract M.conv M.not M.neg M.bin M.shift M.eqB M.eqNil M.call M.callv M.gd M.share M.cond M.loop M.draw pureW readW Ret
/-! ### what is learned follows: no program here -/
def vE (e : Ent) : Int := e.lit / 2
def cntL (N : Int) (met : List Int) (L : List Ent) : Nat := (L.filter (fun e => decide (vE e ∈ met) && decide (e.lev = N))).length
theorem cntL_snoc (N : Int) (met : List Int) (L : List Ent) (e : Ent) : cntL N met (L ++ [e]) = cntL N met L + if vE e ∈ met ∧ e.lev = N then 1 else 0 := by
  unfold cntL
  rw [List.filter_append, List.length_append]
  congr 1
  by_cases h : vE e ∈ met ∧ e.lev = N
  · simp [h.1, h.2]
  · rw [if_neg h]
    rw [List.filter_cons, if_neg (by simpa using fun h1 h2 => h ⟨h1, h2⟩)]; rfl
theorem cntL_none {N : Int} {met : List Int} {v : Int} : ∀ (L : List Ent), (∀ e ∈ L, vE e ≠ v) → cntL N (met ++ [v]) L = cntL N met L
  | [], _ => rfl
  | e :: L, h => by
    have ih := cntL_none (N := N) (met := met) L (fun f hf => h f (List.mem_cons_of_mem _ hf))
    have h0 := h e List.mem_cons_self
    unfold cntL at ih ⊢
    have : (vE e ∈ met ++ [v]) ↔ vE e ∈ met := by simp [h0]
    simp only [List.filter_cons, this]
    split
    · simp only [List.length_cons, ih]
    · exact ih
theorem cntL_add {N : Int} {met : List Int} {v : Int} (hv : v ∉ met) : ∀ (L : List Ent), (L.map vE).Nodup → ∀ e ∈ L, vE e = v → cntL N (met ++ [v]) L = cntL N met L + if e.lev = N then 1 else 0
  | [], _, e, he, _ => by simp at he
  | f :: L, hn, e, he, hev => by
    rw [List.map_cons, List.nodup_cons] at hn
    rcases List.mem_cons.1 he with rfl | he
    · have h2 : ∀ g ∈ L, vE g ≠ v := fun g hg h => hn.1 (by rw [hev, ← h]; exact List.mem_map.2 ⟨g, hg, rfl⟩)
      have ih := cntL_none (N := N) (met := met) L h2
      unfold cntL at ih ⊢
      have e1 : vE e ∈ met ++ [v] := by simp [hev]
      have e2 : ¬ vE e ∈ met := by rw [hev]; exact hv
      simp only [List.filter_cons, e1, e2, decide_true, decide_false, Bool.true_and, Bool.false_and]
      by_cases hl : e.lev = N
      · simp only [hl, decide_true, if_true, List.length_cons, ih]; rfl
      · simp only [hl, decide_false, if_false, Bool.false_eq_true, Nat.add_zero]; exact ih
    · have ih := cntL_add (N := N) hv L hn.2 e he hev
      have hne : vE f ≠ v := fun h => hn.1 (by rw [h, ← hev]; exact List.mem_map.2 ⟨e, he, rfl⟩)
      have : (vE f ∈ met ++ [v]) ↔ vE f ∈ met := by simp [hne]
      unfold cntL at ih ⊢
      simp only [List.filter_cons, this]
      split
      · simp only [List.length_cons, ih]; omega
      · exact ih
theorem cntL_pos {N : Int} {met : List Int} {L : List Ent} (h : 0 < cntL N met L) : ∃ e ∈ L, vE e ∈ met ∧ e.lev = N := by
  unfold cntL at h
  obtain ⟨e, he⟩ := List.exists_mem_of_length_pos h
  obtain ⟨h1, h2⟩ := List.mem_filter.1 he
  simp only [Bool.and_eq_true, decide_eq_true_eq] at h2
  exact ⟨e, h1, h2⟩
theorem cntL_zero {N : Int} {met : List Int} {L : List Ent} (h : cntL N met L = 0) : ∀ e ∈ L, vE e ∈ met → e.lev ≠ N := fun e he h1 h2 => by
  unfold cntL at h
  have := List.length_eq_zero_iff.1 h
  have hm : e ∈ L.filter (fun e => decide (vE e ∈ met) && decide (e.lev = N)) := List.mem_filter.2 ⟨he, by simp [h1, h2]⟩
  rw [this] at hm; simp at hm
section
variable {t : Tr} {l : List (List Int)} {m : LS}
theorem Tr.Fine.nodupV (hf : t.Fine) : (t.L.map vE).Nodup := by
  rw [List.Nodup, List.pairwise_map, List.pairwise_iff_getElem]
  intro i j hi hj hij h
  have := (hf.uniq (List.getElem?_eq_getElem hi) (List.getElem?_eq_getElem hj) h).1
  omega
theorem Tr.Fine.varE (hf : t.Fine) {e : Ent} (he : e ∈ t.L) : varOf e.lit = vE e := by
  have := (hf.mem he).1
  unfold varOf vE; rw [if_neg (by omega)]
theorem Tr.Fine.levE (hf : t.Fine) {e : Ent} (he : e ∈ t.L) : t.lev (vE e) = e.lev := by
  obtain ⟨i, hi⟩ := List.mem_iff_getElem?.1 he
  rw [← hf.varE he]; exact hf.lev hi
/-- A literal that does not hold: the entry of its Not. -/
theorem Tr.Fine.neg (hf : t.Fine) {y : Int} (h : t.val y = -1) : 0 ≤ y ∧ ∃ e ∈ t.L, e.lit = notOf y ∧ varOf y = vE e := by
  have h0 : 0 ≤ y := by
    rcases Int.lt_or_le y 0 with h0 | h0
    · unfold Tr.val at h; rw [if_pos h0] at h; omega
    · exact h0
  obtain ⟨e, he, hx⟩ := (hf.val_neg h0).1 (by omega)
  refine ⟨h0, e, he, hx, ?_⟩
  unfold varOf vE
  rw [if_neg (by omega), hx, (notOf_nn h0).2.1]
theorem Tr.Fine.of_not (hf : t.Fine) {y : Int} (h0 : 0 ≤ y) (h : t.has (notOf y)) : t.val y = -1 := by
  have := (hf.val_neg h0).2 h
  rcases hf.val h0 with ⟨h, _⟩ | ⟨h, _⟩ | ⟨h, _⟩ <;> omega
/-- What is kept of what was met, j entries of the trail being left. -/
structure IL (t : Tr) (l : List (List Int)) (c : List Int) (m : LS) (j : Nat) : Prop where
  ok : LSok m
  ent : ∀ v ∈ m.met, ∃ e ∈ t.L, vE e = v ∧ e.lev ≠ 0
  oth : ∀ y ∈ m.others, t.val y = -1 ∧ t.lev (varOf y) ≠ 0 ∧ t.lev (varOf y) ≠ t.begins.length ∧ varOf y ∈ m.met
  low : ∀ e ∈ t.L, vE e ∈ m.met → e.lev ≠ t.begins.length → ∃ y ∈ m.others, notOf y = e.lit
  cnt : m.left = cntL t.begins.length m.met (t.L.take j)
  con : ∀ y ∈ c, t.lev (varOf y) = 0 ∨ varOf y ∈ m.met
theorem meet1_met (t : Tr) (m : LS) (x : Int) : ∀ v ∈ m.met, v ∈ (meet1 t m x).met := fun v hv => by
  unfold meet1
  split
  · exact hv
  · split
    · exact List.mem_append_left _ hv
    · exact List.mem_append_left _ hv
theorem meet1_has (t : Tr) (m : LS) (x : Int) : t.lev (varOf x) = 0 ∨ varOf x ∈ (meet1 t m x).met := by
  unfold meet1
  split
  · rename_i h; exact h
  · split
    · exact .inr (by simp)
    · exact .inr (by simp)
/-- One literal is met: its Not lies among the j. -/
theorem IL.meet1 {c : List Int} {j : Nat} (h : IL t l c m j) (hf : t.Fine) (hv : t.vars ≤ 64) {y : Int} (hy : t.val y = -1) (hj : ∃ e ∈ t.L.take j, e.lit = notOf y) : IL t l c (meet1 t m y) j := by
  obtain ⟨h0, e, he, hel, hve⟩ := hf.neg hy
  obtain ⟨e', he', hel'⟩ := hj
  have hee : e' = e := by
    have h1 : e' ∈ t.L := List.mem_of_mem_take he'
    obtain ⟨a, ha⟩ := List.mem_iff_getElem?.1 h1
    obtain ⟨b, hb⟩ := List.mem_iff_getElem?.1 he
    exact (hf.uniq ha hb (by rw [hel', hel])).2
  subst hee
  have hle := hf.levE he
  have hmono := meet1_met t m y
  by_cases hc1 : t.lev (varOf y) = 0 ∨ varOf y ∈ m.met
  · have e1 : Go.Proofs.Ytnmbgfonlpjicaa.meet1 t m y = m := by unfold Go.Proofs.Ytnmbgfonlpjicaa.meet1; rw [if_pos hc1]
    rw [e1]; exact h
  have hnm : vE e' ∉ m.met := fun h' => hc1 (.inr (by rw [hve]; exact h'))
  have hn0 : e'.lev ≠ 0 := fun h' => hc1 (.inl (by rw [hve, hle]; exact h'))
  have hnd : ((t.L.take j).map vE).Nodup := by rw [List.map_take]; exact hf.nodupV.sublist (List.take_sublist _ _)
  have hca := cntL_add (N := t.begins.length) hnm (t.L.take j) hnd e' he' rfl
  have hok := h.ok.meet1 hf hv hy
  refine ⟨hok, fun v hv' => ?_, fun z hz => ?_, fun f hf' hfm hfl => ?_, ?_, fun z hz => (h.con z hz).imp (fun h => h) (hmono _)⟩
  · have hv2 : v ∈ m.met ∨ v = vE e' := by
      unfold Go.Proofs.Ytnmbgfonlpjicaa.meet1 at hv'
      rw [if_neg hc1] at hv'
      split at hv' <;> · rcases List.mem_append.1 hv' with h' | h'
                         · exact .inl h'
                         · simp at h'; exact .inr (by rw [h', hve])
    rcases hv2 with h' | h'
    · exact h.ent v h'
    · exact ⟨e', he, h'.symm, hn0⟩
  · unfold Go.Proofs.Ytnmbgfonlpjicaa.meet1 at hz ⊢
    rw [if_neg hc1] at hz ⊢
    split at hz
    · rename_i hl; rw [if_pos hl]
      obtain ⟨a1, a2, a3, a4⟩ := h.oth z hz
      exact ⟨a1, a2, a3, List.mem_append_left _ a4⟩
    · rename_i hl; rw [if_neg hl]
      rcases List.mem_append.1 hz with h' | h'
      · obtain ⟨a1, a2, a3, a4⟩ := h.oth z h'
        exact ⟨a1, a2, a3, List.mem_append_left _ a4⟩
      · simp at h'; subst h'
        exact ⟨hy, fun h' => hc1 (.inl h'), hl, by simp⟩
  · unfold Go.Proofs.Ytnmbgfonlpjicaa.meet1 at hfm ⊢
    rw [if_neg hc1] at hfm ⊢
    by_cases hl : t.lev (varOf y) = t.begins.length
    · rw [if_pos hl] at hfm ⊢
      rcases List.mem_append.1 hfm with h' | h'
      · exact h.low f hf' h' hfl
      · simp at h'
        exfalso
        apply hfl
        rw [← hf.levE hf', h', hl]
    · rw [if_neg hl] at hfm ⊢
      rcases List.mem_append.1 hfm with h' | h'
      · obtain ⟨z, hz, hzz⟩ := h.low f hf' h' hfl
        exact ⟨z, List.mem_append_left _ hz, hzz⟩
      · simp at h'
        refine ⟨y, by simp, ?_⟩
        obtain ⟨a, ha⟩ := List.mem_iff_getElem?.1 hf'
        obtain ⟨b, hb⟩ := List.mem_iff_getElem?.1 he
        have := (hf.uniq ha hb (by show vE f = vE e'; rw [h', hve])).2
        rw [this, hel]
  · unfold Go.Proofs.Ytnmbgfonlpjicaa.meet1
    rw [if_neg hc1]
    have hcnt := h.cnt
    by_cases hl : t.lev (varOf y) = t.begins.length
    · rw [if_pos hl]
      show m.left + 1 = (cntL t.begins.length (m.met ++ [varOf y]) (t.L.take j) : Int)
      rw [hve, hca, if_pos (by rw [← hle, ← hve]; exact hl)]
      omega
    · rw [if_neg hl]
      show m.left = (cntL t.begins.length (m.met ++ [varOf y]) (t.L.take j) : Int)
      rw [hve, hca, if_neg (by rw [← hle, ← hve]; exact hl)]
      omega
theorem meet1_new (t : Tr) (m : LS) (y : Int) : ∀ v ∈ (meet1 t m y).met, v ∈ m.met ∨ v = varOf y := fun v hv => by
  unfold meet1 at hv
  split at hv
  · exact .inl hv
  · split at hv <;> · rcases List.mem_append.1 hv with h' | h'
                      · exact .inl h'
                      · simp at h'; exact .inr h'
theorem meetL_c (t : Tr) (but x : Int) (c : List Int) (m : LS) : meetL t but (x :: c) m = if x = but ∧ 0 ≤ but then meetL t but c m else if t.val x ≠ -1 then (m, false) else meetL t but c (meet1 t m x) := rfl
theorem IL.meetL {c : List Int} {j : Nat} (hf : t.Fine) (hv : t.vars ≤ 64) {but : Int} : ∀ (rc : List Int) (m : LS), IL t l c m j → (∀ y ∈ rc, ¬ (y = but ∧ 0 ≤ but) → t.val y = -1 ∧ ∃ e ∈ t.L.take j, e.lit = notOf y) →
    (meetL t but rc m).2 = true ∧ IL t l c (meetL t but rc m).1 j ∧ (∀ v ∈ m.met, v ∈ (meetL t but rc m).1.met) ∧ (∀ v ∈ (meetL t but rc m).1.met, v ∈ m.met ∨ ∃ e ∈ t.L.take j, vE e = v) ∧ ∀ y ∈ rc, ¬ (y = but ∧ 0 ≤ but) → t.lev (varOf y) = 0 ∨ varOf y ∈ (meetL t but rc m).1.met
  | [], m, h, _ => ⟨rfl, h, fun v hv => hv, fun v hv => .inl hv, fun y hy => by simp at hy⟩
  | x :: rc, m, h, hy => by
    rw [meetL_c]
    by_cases hs : x = but ∧ 0 ≤ but
    · rw [if_pos hs]
      obtain ⟨a1, a2, a3, a4, a5⟩ := IL.meetL hf hv rc m h (fun y hm => hy y (List.mem_cons_of_mem _ hm))
      refine ⟨a1, a2, a3, a4, fun y hm hn => ?_⟩
      rcases List.mem_cons.1 hm with rfl | hm
      · exact absurd hs hn
      · exact a5 y hm hn
    · obtain ⟨h1, h2⟩ := hy x List.mem_cons_self hs
      rw [if_neg hs, if_neg (by simpa using h1)]
      have hm1 := h.meet1 hf hv h1 h2
      obtain ⟨a1, a2, a3, a4, a5⟩ := IL.meetL hf hv rc _ hm1 (fun y hm => hy y (List.mem_cons_of_mem _ hm))
      refine ⟨a1, a2, fun v hv' => a3 v (meet1_met t m x v hv'), fun v hv' => ?_, fun y hm hn => ?_⟩
      · rcases a4 v hv' with h' | h'
        · rcases meet1_new t m x v h' with h' | h'
          · exact .inl h'
          · obtain ⟨e, he, hel⟩ := h2
            obtain ⟨_, e', he', hel', hve'⟩ := hf.neg h1
            refine .inr ⟨e, he, ?_⟩
            rw [h', hve']
            unfold vE
            rw [hel, hel']
        · exact .inr h'
      · rcases List.mem_cons.1 hm with rfl | hm
        · exact (meet1_has t m y).imp (fun h => h) (a3 _)
        · exact a5 y hm hn
/-- Each entry that was resolved has a clause, all of whose others were met. -/
def Res (t : Tr) (l : List (List Int)) (m : LS) (j : Nat) : Prop := ∀ (i : Nat) e, j ≤ i → t.L[i]? = some e → vE e ∈ m.met → e.lev = t.begins.length → ∃ rc, rc ∈ l ∧ e.lit ∈ rc ∧ (∀ y ∈ rc, 0 ≤ y ∧ (y ≠ e.lit → notOf y ∈ (t.L.map (·.lit)).take i)) ∧ ∀ y ∈ rc, y ≠ e.lit → t.lev (varOf y) = 0 ∨ varOf y ∈ m.met
/-- Reasons; and what has none begins a level. -/
def Why (t : Tr) (l : List (List Int)) : Prop := ∀ (i : Nat) e, t.L[i]? = some e → (0 ≤ e.rea → ∃ c, l[e.rea.toNat]? = some c ∧ e.lit ∈ c ∧ ∀ y ∈ c, 0 ≤ y ∧ (y ≠ e.lit → notOf y ∈ (t.L.map (·.lit)).take i)) ∧ (e.rea < 0 → ∃ k : Nat, t.begins[k]? = some (i : Int))
theorem lastL_c (t : Tr) (l : List (List Int)) (x : Int) (es : List Int) (m : LS) : lastL t l (x :: es) m = if varOf x ∉ m.met ∨ t.lev (varOf x) ≠ t.begins.length then lastL t l es m
    else if m.left = 1 then (m, some x)
    else match reasonL t l x with
      | none => (⟨m.met, m.others, m.left - 1⟩, none)
      | some c => if (meetL t x c ⟨m.met, m.others, m.left - 1⟩).2 then lastL t l es (meetL t x c ⟨m.met, m.others, m.left - 1⟩).1 else ((meetL t x c ⟨m.met, m.others, m.left - 1⟩).1, none) := rfl
theorem last_ok {c : List Int} (hf : t.Fine) (hv : t.vars ≤ 64) (lv : t.Lv) (hw : Why t l) : ∀ (j : Nat) (m : LS), j ≤ t.L.length → IL t l c m j → Res t l m j → 1 ≤ m.left →
    ∃ (m' : LS) (x : Int) (i : Nat) (e : Ent), lastL t l ((t.L.map (·.lit)).take j).reverse m = (m', some x) ∧ t.L[i]? = some e ∧ e.lit = x ∧ e.lev = (t.begins.length : Int) ∧ vE e ∈ m'.met ∧ IL t l c m' (i + 1) ∧ Res t l m' (i + 1) ∧ m'.left = 1
  | 0, m, _, h, _, h1 => by
    have := h.cnt
    simp [cntL] at this
    omega
  | j + 1, m, hj, h, hr, h1 => by
    obtain ⟨e, he⟩ : ∃ e, t.L[j]? = some e := ⟨_, List.getElem?_eq_getElem (by omega)⟩
    have hem := List.mem_of_getElem? he
    have hel : (t.L.map (·.lit))[j]? = some e.lit := by rw [List.getElem?_map, he]; rfl
    have et : ((t.L.map (·.lit)).take (j + 1)).reverse = e.lit :: ((t.L.map (·.lit)).take j).reverse := by
      rw [List.take_add_one, hel]; simp
    have etk : t.L.take (j + 1) = t.L.take j ++ [e] := by rw [List.take_add_one, he]; rfl
    have hve := hf.varE hem
    have hle := hf.levE hem
    have hcnt := h.cnt
    rw [etk, cntL_snoc] at hcnt
    rw [et, lastL_c, hve, hle]
    by_cases hs : vE e ∉ m.met ∨ e.lev ≠ t.begins.length
    · rw [if_pos hs]
      have hno : ¬ (vE e ∈ m.met ∧ e.lev = t.begins.length) := fun h' => by
        rcases hs with hs | hs
        · exact hs h'.1
        · exact hs h'.2
      rw [if_neg hno] at hcnt
      refine last_ok hf hv lv hw j m (by omega) ⟨h.ok, h.ent, h.oth, h.low, hcnt, h.con⟩ (fun i f hi hfi hm hlv => ?_) h1
      rcases Nat.eq_or_lt_of_le hi with hi | hi
      · subst hi
        rw [he] at hfi
        cases hfi
        exact absurd ⟨hm, hlv⟩ hno
      · exact hr i f hi hfi hm hlv
    · have hyes : vE e ∈ m.met ∧ e.lev = t.begins.length := ⟨Classical.not_not.1 fun h' => hs (.inl h'), Classical.not_not.1 fun h' => hs (.inr h')⟩
      rw [if_neg hs]
      rw [if_pos hyes] at hcnt
      by_cases hl1 : m.left = 1
      · rw [if_pos hl1]
        exact ⟨m, e.lit, j, e, rfl, he, rfl, hyes.2, hyes.1, h, hr, hl1⟩
      · rw [if_neg hl1]
        have hpos : 0 < cntL t.begins.length m.met (t.L.take j) := by omega
        obtain ⟨e2, he2, hm2, hl2⟩ := cntL_pos hpos
        have hrea : 0 ≤ e.rea := by
          rcases Int.lt_or_le e.rea 0 with hneg | hge
          · exfalso
            obtain ⟨k, hk⟩ := (hw j e he).2 hneg
            obtain ⟨i2, hi2⟩ := List.mem_iff_getElem?.1 he2
            have hlt := (List.getElem?_eq_some_iff.1 hi2).1
            rw [List.length_take] at hlt
            rw [List.getElem?_take, if_pos (by omega)] at hi2
            have := (lv i2 e2 hi2).2.2 k _ hk
            have hkl := (List.getElem?_eq_some_iff.1 hk).1
            omega
          · exact hge
        obtain ⟨rc, hrc, hmem, hoth⟩ := (hw j e he).1 hrea
        have hre : reasonL t l e.lit = some rc := by
          unfold reasonL
          rw [hve]
          have : t.rea (vE e) = e.rea := hf.rea he
          rw [this, if_pos hrea, hrc]
          simp [hmem]
        rw [hre]
        simp only
        have h0 : IL t l c ⟨m.met, m.others, m.left - 1⟩ j := ⟨⟨h.ok.rng, h.ok.nod, ⟨by show 0 ≤ m.left - 1; omega, by have := h.ok.left; show m.left - 1 ≤ (m.met.length : Int); omega⟩, h.ok.oth⟩, h.ent, h.oth, h.low, by show m.left - 1 = (cntL t.begins.length m.met (t.L.take j) : Int); omega, h.con⟩
        have hy : ∀ y ∈ rc, ¬ (y = e.lit ∧ 0 ≤ e.lit) → t.val y = -1 ∧ ∃ f ∈ t.L.take j, f.lit = notOf y := fun y hy hn => by
          have hne : y ≠ e.lit := fun h' => hn ⟨h', (hf.mem hem).1⟩
          obtain ⟨hy0, hyn⟩ := hoth y hy
          have hyn := hyn hne
          rw [← List.map_take] at hyn
          obtain ⟨f, hfm, hfl⟩ := List.mem_map.1 hyn
          exact ⟨hf.of_not hy0 ⟨f, List.mem_of_mem_take hfm, hfl⟩, f, hfm, hfl⟩
        obtain ⟨a1, a2, a3, a4, a5⟩ := IL.meetL hf hv rc _ h0 hy
        rw [if_pos a1]
        have hleft : m.left - 1 ≤ (meetL t e.lit rc ⟨m.met, m.others, m.left - 1⟩).1.left := by
          have hc2 := a2.cnt
          have hc0 := h0.cnt
          have hsub : cntL t.begins.length m.met (t.L.take j) ≤ cntL t.begins.length (meetL t e.lit rc ⟨m.met, m.others, m.left - 1⟩).1.met (t.L.take j) := by
            unfold cntL
            generalize t.L.take j = L
            induction L with
            | nil => exact Nat.le_refl _
            | cons f L ih =>
              simp only [List.filter_cons]
              by_cases hfm : vE f ∈ m.met
              · have := a3 _ hfm
                simp only [hfm, this, decide_true, Bool.true_and]
                split
                · simp only [List.length_cons]; omega
                · exact ih
              · simp only [hfm, decide_false, Bool.false_and, Bool.false_eq_true, if_false]
                split
                · simp only [List.length_cons]; omega
                · exact ih
          have hc0' : m.left - 1 = _ := hc0
          omega
        refine last_ok hf hv lv hw j _ (by omega) a2 (fun i f hi hfi hm hlv => ?_) (by omega)
        have hold : vE f ∈ m.met := by
          rcases a4 _ hm with h' | ⟨g, hg, hgv⟩
          · exact h'
          · exfalso
            obtain ⟨i2, hi2⟩ := List.mem_iff_getElem?.1 hg
            have hlt := (List.getElem?_eq_some_iff.1 hi2).1
            rw [List.length_take] at hlt
            rw [List.getElem?_take, if_pos (by omega)] at hi2
            have := (hf.uniq hfi hi2 hgv.symm).1
            omega
        rcases Nat.eq_or_lt_of_le hi with hi | hi
        · subst hi
          rw [he] at hfi
          cases hfi
          exact ⟨rc, List.mem_of_getElem? hrc, hmem, hoth, fun y hy hne => a5 y hy (fun h' => hne h'.1)⟩
        · obtain ⟨rc', b1, b2, b3, b4⟩ := hr i f hi hfi hold hlv
          exact ⟨rc', b1, b2, b3, fun y hy hne => (b4 y hy hne).imp (fun h => h) (a3 _)⟩
theorem lessO_tr (t : Tr) (a b c : Int) (h1 : (!lessO t b a) = true) (h2 : (!lessO t c b) = true) : (!lessO t c a) = true := by
  unfold lessO at *
  simp only [Bool.not_eq_true', Bool.or_eq_false_iff, Bool.and_eq_false_iff, decide_eq_false_iff_not] at *
  omega
theorem lessO_tot (t : Tr) (a b : Int) : ((!lessO t b a) || (!lessO t a b)) = true := by
  unfold lessO
  simp only [Bool.or_eq_true, Bool.not_eq_true', Bool.or_eq_false_iff, Bool.and_eq_false_iff, decide_eq_false_iff_not]
  omega
theorem mem_sortO {t : Tr} {xs : List Int} {y : Int} : y ∈ sortO t xs ↔ y ∈ xs := (List.mergeSort_perm xs _).mem_iff
theorem sortO_max {t : Tr} {xs : List Int} {y0 : Int} {ys : List Int} (h : sortO t xs = y0 :: ys) : ∀ y ∈ xs, t.lev (varOf y) ≤ t.lev (varOf y0) := fun y hy => by
  have hs := List.pairwise_mergeSort (le := fun a b => !lessO t b a) (lessO_tr t) (lessO_tot t) xs
  have hs : (sortO t xs).Pairwise (fun a b => (!lessO t b a) = true) := hs
  rw [h, List.pairwise_cons] at hs
  have hm : y ∈ sortO t xs := mem_sortO.2 hy
  rw [h] at hm
  rcases List.mem_cons.1 hm with rfl | hm
  · exact Int.le_refl _
  · have := hs.1 y hm
    unfold lessO at this
    simp only [Bool.not_eq_true', Bool.or_eq_false_iff, decide_eq_false_iff_not] at this
    omega
/-- All that was met follows, where the learned literals are denied. -/
theorem fol_met {c : List Int} {m : LS} {i0 : Nat} {e0 : Ent} {N : List Int} (hf : t.Fine) (lv : t.Lv) (hw : Why t l) (h : IL t l c m (i0 + 1)) (hr : Res t l m (i0 + 1)) (he0 : t.L[i0]? = some e0) (hl0 : e0.lev = (t.begins.length : Int)) (hm0 : vE e0 ∈ m.met) (h1 : m.left = 1)
    (hN : ∀ y, y ∈ N ↔ y = e0.lit ∨ ∃ z ∈ m.others, y = notOf z) : ∀ (n i : Nat) (e : Ent), i < n → t.L[i]? = some e → (e.lev = 0 ∨ vE e ∈ m.met) → Fol l N e.lit
  | 0, i, e, hi, _, _ => by omega
  | n + 1, i, e, hi, he, hc => by
    have ih := fol_met hf lv hw h hr he0 hl0 hm0 h1 hN n
    have hem := List.mem_of_getElem? he
    have hnn := (hf.mem hem).1
    have hstep : ∀ rc, rc ∈ l → e.lit ∈ rc → (∀ y ∈ rc, 0 ≤ y ∧ (y ≠ e.lit → notOf y ∈ (t.L.map (·.lit)).take i)) → (∀ y ∈ rc, y ≠ e.lit → t.lev (varOf y) = 0 ∨ varOf y ∈ m.met) → Fol l N e.lit := fun rc hrc hmem hb hcl => by
      refine .step rc e.lit hrc hmem (by omega) (fun y hy hy0 hne => ?_)
      have hyn := (hb y hy).2 hne
      obtain ⟨i2, hi2⟩ := List.mem_iff_getElem?.1 hyn
      have hlt := (List.getElem?_eq_some_iff.1 hi2).1
      rw [List.length_take] at hlt
      rw [List.getElem?_take, if_pos (by omega), List.getElem?_map] at hi2
      obtain ⟨f, hff, hfl⟩ : ∃ f, t.L[i2]? = some f ∧ f.lit = notOf y := by
        cases hz : t.L[i2]? with
        | none => rw [hz] at hi2; cases hi2
        | some f => rw [hz] at hi2; simp at hi2; exact ⟨f, rfl, hi2⟩
      rw [← hfl]
      have hfm := List.mem_of_getElem? hff
      have hvy : varOf y = vE f := by
        unfold varOf vE
        rw [if_neg (by omega), hfl, (notOf_nn (by omega)).2.1]
      refine ih i2 f (by omega) hff ((hcl y hy hne).imp (fun h' => ?_) (fun h' => ?_))
      · rw [← hf.levE hfm, ← hvy]; exact h'
      · rw [← hvy]; exact h'
    by_cases hz : e.lev = 0
    · have hrea : 0 ≤ e.rea := by
        rcases Int.lt_or_le e.rea 0 with hneg | hge
        · exfalso
          obtain ⟨k, hk⟩ := (hw i e he).2 hneg
          have := (lv i e he).2.2 k _ hk
          omega
        · exact hge
      obtain ⟨rc, hrc, hmem, hoth⟩ := (hw i e he).1 hrea
      refine hstep rc (List.mem_of_getElem? hrc) hmem hoth (fun y hy hne => .inl ?_)
      have hyn := (hoth y hy).2 hne
      obtain ⟨i2, hi2⟩ := List.mem_iff_getElem?.1 hyn
      have hlt := (List.getElem?_eq_some_iff.1 hi2).1
      rw [List.length_take] at hlt
      rw [List.getElem?_take, if_pos (by omega), List.getElem?_map] at hi2
      obtain ⟨f, hff, hfl⟩ : ∃ f, t.L[i2]? = some f ∧ f.lit = notOf y := by
        cases hz : t.L[i2]? with
        | none => rw [hz] at hi2; cases hi2
        | some f => rw [hz] at hi2; simp at hi2; exact ⟨f, rfl, hi2⟩
      have hfm := List.mem_of_getElem? hff
      have hvy : varOf y = vE f := by
        have := (hoth y hy).1
        unfold varOf vE
        rw [if_neg (by omega), hfl, (notOf_nn (by omega)).2.1]
      rw [hvy, hf.levE hfm]
      obtain ⟨b1, b2, b3⟩ := lv i2 f hff
      obtain ⟨d1, d2, d3⟩ := lv i e he
      rcases Int.lt_or_le 0 f.lev with hp | hp
      · exfalso
        cases hb : t.begins[0]? with
        | none =>
          have := List.getElem?_eq_none_iff.1 hb
          omega
        | some x =>
          have h3 := b3 0 x hb
          have h4 := d3 0 x hb
          omega
      · omega
    · have hm : vE e ∈ m.met := by
        rcases hc with hc | hc
        · exact absurd hc hz
        · exact hc
      by_cases hl : e.lev = (t.begins.length : Int)
      · by_cases hi0 : i0 + 1 ≤ i
        · obtain ⟨rc, b1, b2, b3, b4⟩ := hr i e hi0 he hm hl
          exact hstep rc b1 b2 b3 b4
        · have hcnt := h.cnt
          rw [h1] at hcnt
          have : i = i0 := by
            rcases Nat.lt_or_ge i i0 with hlt | hge
            · exfalso
              have etk : t.L.take (i0 + 1) = t.L.take i0 ++ [e0] := by rw [List.take_add_one, he0]; rfl
              rw [etk, cntL_snoc, if_pos ⟨hm0, hl0⟩] at hcnt
              have hz : cntL t.begins.length m.met (t.L.take i0) = 0 := by omega
              exact cntL_zero hz e (List.mem_of_getElem? (i := i) (by rw [List.getElem?_take, if_pos hlt]; exact he)) hm hl
            · omega
          subst this
          rw [he0] at he
          cases he
          exact .base _ ((hN _).2 (.inl rfl)) (by omega)
      · obtain ⟨z, hz1, hz2⟩ := h.low e hem hm hl
        exact .base _ ((hN _).2 (.inr ⟨z, hz1, hz2.symm⟩)) (by omega)
theorem il_start (hf : t.Fine) (hv : t.vars ≤ 64) (l : List (List Int)) {c : List Int} (hc : ∀ y ∈ c, t.val y = -1) :
    (meetL t (-1) c ⟨[], [], 0⟩).2 = true ∧ IL t l c (meetL t (-1) c ⟨[], [], 0⟩).1 t.L.length ∧ Res t l (meetL t (-1) c ⟨[], [], 0⟩).1 t.L.length := by
  have h0 : IL t l [] ⟨[], [], 0⟩ t.L.length := ⟨⟨fun v hv => by simp at hv, List.nodup_nil, ⟨Int.le_refl _, by simp⟩, Nat.le_refl _⟩, fun v hv => by simp at hv, fun y hy => by simp at hy, fun e _ he => by simp at he, by
    show (0 : Int) = _
    unfold cntL
    rw [List.filter_eq_nil_iff.2 (fun e _ => by simp)]; rfl, fun y hy => by simp at hy⟩
  obtain ⟨a1, a2, a3, a4, a5⟩ := IL.meetL hf hv (but := -1) c _ h0 (fun y hy _ => by
    obtain ⟨h1, e, he, hel, _⟩ := hf.neg (hc y hy)
    exact ⟨hc y hy, e, by rw [List.take_length]; exact he, hel⟩)
  refine ⟨a1, ⟨a2.ok, a2.ent, a2.oth, a2.low, a2.cnt, fun y hy => a5 y hy (fun h => by omega)⟩, fun i e hi he _ _ => ?_⟩
  have := (List.getElem?_eq_some_iff.1 he).1
  omega
structure Lrnd (t : Tr) (l : List (List Int)) (out : List Int) (back : Int) : Prop where
  hd : ∃ x os, out = notOf x :: os ∧ 0 ≤ x ∧ t.has x ∧ t.lev (varOf x) = (t.begins.length : Int) ∧ ∀ y ∈ os, t.val y = -1 ∧ 1 ≤ t.lev (varOf y) ∧ t.lev (varOf y) ≤ back
  back : 0 ≤ back ∧ back < (t.begins.length : Int)
  bot : Bot l (out.map notOf)
  len : out.length ≤ 65
theorem learn_ok {c : List Int} {ci : Int} (hf : t.Fine) (hv : t.vars ≤ 64) (lv : t.Lv) (hw : Why t l) (h0 : 0 ≤ ci) (hci : l[ci.toNat]? = some c) (hN : t.begins.length ≠ 0) (hc : ∀ y ∈ c, t.val y = -1) (hex : ∃ y ∈ c, t.lev (varOf y) = (t.begins.length : Int)) :
    ∃ out back vs, learnL t l ci = some (out, back, vs) ∧ Lrnd t l out back := by
  obtain ⟨a1, a2, a3⟩ := il_start hf hv l hc
  have hlt := (List.getElem?_eq_some_iff.1 hci).1
  have hgd : l.getD ci.toNat [] = c := by rw [List.getD_eq_getElem?_getD, hci]; rfl
  have hleft : 1 ≤ (meetL t (-1) c ⟨[], [], 0⟩).1.left := by
    obtain ⟨y, hy, hl⟩ := hex
    obtain ⟨h1, e, he, hel, hve⟩ := hf.neg (hc y hy)
    have hm : varOf y ∈ (meetL t (-1) c ⟨[], [], 0⟩).1.met := by
      rcases a2.con y hy with h | h
      · omega
      · exact h
    have hcnt := a2.cnt
    rw [List.take_length] at hcnt
    rcases Nat.eq_zero_or_pos (cntL t.begins.length (meetL t (-1) c ⟨[], [], 0⟩).1.met t.L) with hz | hp
    · exfalso
      refine cntL_zero hz e he (by rw [← hve]; exact hm) ?_
      rw [← hf.levE he, ← hve]; exact hl
    · omega
  obtain ⟨m', x, i, e, g1, g2, g3, g4, g5, g6, g7, g8⟩ := last_ok hf hv lv hw t.L.length _ (Nat.le_refl _) a2 a3 hleft
  have ht : (t.L.map (·.lit)).take t.L.length = t.L.map (·.lit) := by
    have : t.L.length = (t.L.map (·.lit)).length := (List.length_map _).symm
    rw [this, List.take_length]
  rw [ht] at g1
  have hem := List.mem_of_getElem? g2
  have hx0 : 0 ≤ x := by rw [← g3]; exact (hf.mem hem).1
  have hlearn : learnL t l ci = some (notOf x :: sortO t m'.others, (match sortO t m'.others with | [] => 0 | y :: _ => t.lev (varOf y)), m'.met.mergeSort (fun a b => decide (a ≤ b))) := by
    unfold learnL
    rw [if_neg (by omega), hgd, if_neg (by rw [a1]; exact fun h => h.elim (fun h => by cases h) (fun h => by omega)), g1]
    rfl
  have hlo : ∀ y ∈ m'.others, t.val y = -1 ∧ 1 ≤ t.lev (varOf y) ∧ t.lev (varOf y) < (t.begins.length : Int) := fun y hy => by
    obtain ⟨b1, b2, b3, b4⟩ := g6.oth y hy
    obtain ⟨_, f, hf', _, hve⟩ := hf.neg b1
    obtain ⟨i2, hi2⟩ := List.mem_iff_getElem?.1 hf'
    have hl := lv i2 f hi2
    rw [hve, hf.levE hf'] at b2 b3 ⊢
    exact ⟨b1, by omega, by omega⟩
  refine ⟨_, _, _, hlearn, ⟨x, sortO t m'.others, rfl, hx0, ⟨e, hem, g3⟩, ?_, fun y hy => ?_⟩, ?_, ?_, ?_⟩
  · rw [← g3, hf.varE hem, hf.levE hem]; exact g4
  · have hy' := mem_sortO.1 hy
    obtain ⟨b1, b2, b3⟩ := hlo y hy'
    refine ⟨b1, b2, ?_⟩
    cases hs : sortO t m'.others with
    | nil => rw [hs] at hy; simp at hy
    | cons y0 ys => exact sortO_max hs y hy'
  · cases hs : sortO t m'.others with
    | nil => exact ⟨Int.le_refl _, by show (0 : Int) < _; omega⟩
    | cons y0 ys =>
      have hy0 : y0 ∈ m'.others := mem_sortO.1 (by rw [hs]; exact List.mem_cons_self)
      obtain ⟨b1, b2, b3⟩ := hlo y0 hy0
      exact ⟨by show 0 ≤ t.lev (varOf y0); omega, b3⟩
  · have hNN : ∀ y, y ∈ (notOf x :: sortO t m'.others).map notOf ↔ y = e.lit ∨ ∃ z ∈ m'.others, y = notOf z := fun y => by
      rw [List.map_cons, List.mem_cons, notOf_notOf, g3, List.mem_map]
      constructor
      · rintro (h | ⟨z, hz, rfl⟩)
        · exact .inl h
        · exact .inr ⟨z, mem_sortO.1 hz, rfl⟩
      · rintro (h | ⟨z, hz, rfl⟩)
        · exact .inl h
        · exact .inr ⟨z, mem_sortO.2 hz, rfl⟩
    refine .inr ⟨c, List.mem_of_getElem? hci, fun y hy hy0 => ?_⟩
    obtain ⟨_, f, hf', hfl, hve⟩ := hf.neg (hc y hy)
    obtain ⟨i2, hi2⟩ := List.mem_iff_getElem?.1 hf'
    rw [← hfl]
    refine fol_met hf lv hw g6 g7 g2 g4 g5 g8 hNN (i2 + 1) i2 f (by omega) hi2 ((g6.con y hy).imp (fun h => ?_) (fun h => ?_))
    · rw [← hf.levE hf', ← hve]; exact h
    · rw [← hve]; exact h
  · have := g6.ok.len
    have h2 := g6.ok.oth
    have h3 : (sortO t m'.others).length = m'.others.length := List.length_mergeSort _
    rw [List.length_cons, h3]; omega
end
end Go.Proofs.Ytnmbgfonlpjicaa
