import Derived.Test.YtanjlgafjgoaaaaMapI
import Derived.Maps.Keyed
import Derived.DeepKeys4
namespace Go.Mw
open Go.MapKept Go.ChangeMaps Go.Maps
set_option linter.unusedVariables false
set_option linter.unusedSectionVars false
set_option linter.unusedSimpArgs false
/-! ### a map by keys of any kind that Go lets be read -/
structure KeyE {α : Type} (P : Program) (k : TypeId) (enc : α → Value) (Okk : α → Prop) : Prop where
  K : Keyed P k
  inj : ∀ a b, enc a = enc b → a = b
  ok : ∀ a, Okk a → ∃ l, keyOf P k (enc a) = some l
section
variable {α : Type} [DecidableEq α] {P : Program} {kt : TypeId} {enc : α → Value} {Okk : α → Prop}
def MapA (enc : α → Value) (Okk : α → Prop) (w : World) (r : Nat) (kv : List (α × Value)) : Prop :=
  ∃ es clock, w.heap[r]? = some (.map es clock) ∧ Stamped es clock ∧ es.toList.map (fun e => (e.key, e.val)) = kv.map (fun p => (enc p.1, p.2)) ∧ ∀ p ∈ kv, Okk p.1
theorem MapA.keep {w w' : World} {r : Nat} {kv : List (α × Value)} {S : Nat → Prop} (h : MapA enc Okk w r kv) (k : Keep w w' S) (hs : ¬ S r) : MapA enc Okk w' r kv := by
  obtain ⟨es, c, h1, h2⟩ := h
  exact ⟨es, c, by rw [k.blk r (lt_of_heap h1) hs]; exact h1, h2⟩
theorem MapA.lt {w : World} {r : Nat} {kv : List (α × Value)} (h : MapA enc Okk w r kv) : r < w.heap.size := by
  obtain ⟨es, c, h1, h2⟩ := h
  exact lt_of_heap h1
def lkpA (kv : List (α × Value)) (x : α) : Option Value := (kv.find? (fun p => decide (p.1 = x))).map (·.2)
def updA (kv : List (α × Value)) (x : α) (v : Value) : List (α × Value) := if kv.any (fun p => decide (p.1 = x)) then kv.map (fun p => if p.1 = x then (x, v) else p) else kv ++ [(x, v)]
theorem keysA_of {es : List MapEntry} {kv : List (α × Value)} (h : es.map (fun e => (e.key, e.val)) = kv.map (fun p => (enc p.1, p.2))) : es.map (·.key) = kv.map (fun p => enc p.1) := by
  have := congrArg (List.map Prod.fst) h
  simpa [List.map_map, Function.comp_def] using this
theorem entA_of {es : List MapEntry} {kv : List (α × Value)} (h : es.map (fun e => (e.key, e.val)) = kv.map (fun p => (enc p.1, p.2))) {j : Nat} {e : MapEntry} (he : es[j]? = some e) : ∃ p, kv[j]? = some p ∧ e.key = enc p.1 ∧ e.val = p.2 := by
  have := congrArg (fun l => l[j]?) h
  simp only [List.getElem?_map, he, Option.map_some] at this
  cases hk : kv[j]? with
  | none => rw [hk] at this; simp at this
  | some p =>
    rw [hk] at this
    simp only [Option.map_some, Option.some.injEq, Prod.mk.injEq] at this
    exact ⟨p, rfl, this.1, this.2⟩
theorem findA_spec (E : KeyE P kt enc Okk) {es : List MapEntry} {kv : List (α × Value)} (h : es.map (fun e => (e.key, e.val)) = kv.map (fun p => (enc p.1, p.2))) (ho : ∀ p ∈ kv, Okk p.1) (hn : (es.map (·.key)).Nodup) (x : α) (hx : Okk x) (w : World) :
    ((Instr.findKey kt (enc x) es).run P w = .ok none w ∧ lkpA kv x = none ∧ kv.any (fun p => decide (p.1 = x)) = false) ∨
    ∃ j e, (Instr.findKey kt (enc x) es).run P w = .ok (some (j, e.val)) w ∧ es[j]? = some e ∧ e.key = enc x ∧ lkpA kv x = some e.val ∧ kv.any (fun p => decide (p.1 = x)) = true := by
  have hk : ∀ e ∈ es, ∃ l, keyOf P kt e.key = some l := fun e he => by
    obtain ⟨j, hj⟩ := List.mem_iff_getElem?.1 he
    obtain ⟨p, hp, h1, _⟩ := entA_of h hj
    rw [h1]; exact E.ok _ (ho p (List.mem_of_getElem? hp))
  obtain ⟨l, hl⟩ := E.ok x hx
  rcases E.K.find w hl es hk with ⟨h1, h2⟩ | ⟨j, e, h1, h2, h3⟩
  · left
    have hno : ∀ p ∈ kv, p.1 ≠ x := fun p hp hx => by
      have : enc p.1 ∈ es.map (·.key) := by rw [keysA_of h]; exact List.mem_map.2 ⟨p, hp, rfl⟩
      obtain ⟨e, he, hek⟩ := List.mem_map.1 this
      exact h2 e he (by rw [hek, hx])
    refine ⟨h1, ?_, ?_⟩
    · unfold lkpA
      rw [List.find?_eq_none.2 (fun p hp => by simpa using hno p hp)]; rfl
    · rw [List.any_eq_false]
      intro p hp; simpa using hno p hp
  · right
    obtain ⟨p, hp, e1, e2⟩ := entA_of h h2
    rw [h3] at e1
    have e1 := E.inj _ _ e1
    have hnk : (kv.map (fun p => enc p.1)).Nodup := by rw [← keysA_of h]; exact hn
    refine ⟨j, e, h1, h2, h3, ?_, List.any_eq_true.2 ⟨p, List.mem_of_getElem? hp, by simp [e1]⟩⟩
    unfold lkpA
    have : kv.find? (fun p => decide (p.1 = x)) = some p := by
      rw [List.find?_eq_some_iff_getElem]
      obtain ⟨hlt, hpe⟩ := List.getElem?_eq_some_iff.1 hp
      refine ⟨by simp [e1], j, hlt, hpe, fun i hi => ?_⟩
      have := List.pairwise_iff_getElem.1 hnk i j (by simp; omega) (by simpa using hlt) hi
      simp only [List.getElem_map, hpe, ne_eq] at this
      simp only [Bool.not_eq_true', decide_eq_false_iff_not]
      intro hh; exact this (by rw [hh, ← e1])
    rw [this, Option.map_some, e2]
variable {k : Kt} {w : World}
theorem M.makeMapA_i {T : TypeId} (h : ∀ w', MapA enc Okk w' w.heap.size [] → Keep w w' No → w'.heap.size = w.heap.size + 1 → k (.map (some w.heap.size)) w') : M.val P (Instr.makeMap T none) k w :=
  M.val_i (show (Instr.makeMap T none).run P w = .ok (.map (some w.heap.size)) (w.alloc (.map #[] 0)) from rfl) (h _ ⟨#[], 0, alloc_new w _, by simp [Stamped], rfl, fun p hp => by cases hp⟩ (Keep.alloc w _ _) (by simp))
theorem M.lookupA_i {T et : TypeId} {r : Nat} {kv : List (α × Value)} {x : α} {z : Value} (E : KeyE P kt enc Okk) (ht : P.underlying T = some (.map kt et)) (hz : ∀ w, (zeroValue et).run P w = .ok z w) (hm : MapA enc Okk w r kv) (hx : Okk x)
    (h : k ((lkpA kv x).getD z) w) : readW P (Instr.lookup T (.map (some r)) (enc x) false) k w := by
  obtain ⟨es, c, h1, h2, h3, ho⟩ := hm
  obtain ⟨l, hl⟩ := E.ok x hx
  have ck : ∀ e, (Instr.checkKey e 10000 kt (enc x)).run P w = .ok () w := fun e => E.K.check w e hl
  refine ⟨_, ?_, h⟩
  rcases findA_spec E h3 ho h2.2.2 x hx w with ⟨g1, g2, _⟩ | ⟨j, e, g1, g2, g3, g4, _⟩
  · simp [Instr.lookup, run_underlying ht, MapKept.run_getObj_map h1, ck, g1, g2, hz]
  · simp [Instr.lookup, run_underlying ht, MapKept.run_getObj_map h1, ck, g1, g4]
/-- 'v, is := m[x]'. -/
theorem M.lookupOkA_i {T et : TypeId} {r : Nat} {kv : List (α × Value)} {x : α} {z : Value} (E : KeyE P kt enc Okk) (ht : P.underlying T = some (.map kt et)) (hz : ∀ w, (zeroValue et).run P w = .ok z w) (hm : MapA enc Okk w r kv) (hx : Okk x)
    (h : k (.tuple #[(lkpA kv x).getD z, .bool (lkpA kv x).isSome]) w) : readW P (Instr.lookup T (.map (some r)) (enc x) true) k w := by
  obtain ⟨es, c, h1, h2, h3, ho⟩ := hm
  obtain ⟨l, hl⟩ := E.ok x hx
  have ck : ∀ e, (Instr.checkKey e 10000 kt (enc x)).run P w = .ok () w := fun e => E.K.check w e hl
  refine ⟨_, ?_, h⟩
  rcases findA_spec E h3 ho h2.2.2 x hx w with ⟨g1, g2, _⟩ | ⟨j, e, g1, g2, g3, g4, _⟩
  · simp [Instr.lookup, run_underlying ht, MapKept.run_getObj_map h1, ck, g1, g2, hz]
  · simp [Instr.lookup, run_underlying ht, MapKept.run_getObj_map h1, ck, g1, g4]
theorem M.mapUpdateA_i {T et : TypeId} {r : Nat} {kv : List (α × Value)} {x : α} {v : Value} (E : KeyE P kt enc Okk) (ht : P.underlying T = some (.map kt et)) (hm : MapA enc Okk w r kv) (hx : Okk x)
    (h : ∀ w', MapA enc Okk w' r (updA kv x v) → Keep w w' (· = r) → w'.heap.size = w.heap.size → k undef w') : M.unit P (Instr.mapUpdate T (.map (some r)) (enc x) v) k w := by
  obtain ⟨es, c, h1, h2, h3, ho⟩ := hm
  obtain ⟨l, hl⟩ := E.ok x hx
  have ck : ∀ e, (Instr.checkKey e 10000 kt (enc x)).run P w = .ok () w := fun e => E.K.check w e hl
  have hsz : ∀ o, (setBlock w r o).heap.size = w.heap.size := fun o => by simp [setBlock]
  have ho' : ∀ p ∈ updA kv x v, Okk p.1 := fun p hp => by
    unfold updA at hp
    split at hp
    · obtain ⟨q, hq, rfl⟩ := List.mem_map.1 hp
      split
      · exact hx
      · exact ho q hq
    · rcases List.mem_append.1 hp with hp | hp
      · exact ho p hp
      · simp at hp; subst hp; exact hx
  rcases findA_spec E h3 ho h2.2.2 x hx w with ⟨g1, g2, g3⟩ | ⟨j, e, g1, g2, g3, g4, g5⟩
  · refine M.unit_i (w' := setBlock w r (.map (es.push { key := enc x, val := v, born := c }) (c + 1))) ?_ (h _ ⟨_, _, setBlock_at h1, ?_, ?_, ho'⟩ (setBlock_keep _ _ _) (hsz _))
    · simp [Instr.mapUpdate, run_underlying ht, MapKept.run_getObj_map h1, ck, g1, MapKept.run_setObj_map _ h1]
      rfl
    · obtain ⟨s1, s2, s3⟩ := h2
      refine ⟨fun y hy => ?_, ?_, ?_⟩
      · simp only [Array.toList_push, List.mem_append, List.mem_singleton] at hy
        rcases hy with hy | rfl
        · have := s1 y hy; omega
        · simp
      · simp only [Array.toList_push, List.map_append, List.map_cons, List.map_nil]
        refine List.nodup_append.2 ⟨s2, by simp, fun a ha b hb => ?_⟩
        simp at hb; subst hb
        obtain ⟨y, hy, rfl⟩ := List.mem_map.1 ha
        have := s1 y hy; omega
      · simp only [Array.toList_push, List.map_append, List.map_cons, List.map_nil]
        refine List.nodup_append.2 ⟨s3, by simp, fun a ha b hb => ?_⟩
        simp at hb; subst hb
        intro hax
        rw [hax, keysA_of h3] at ha
        obtain ⟨p, hp, hpe⟩ := List.mem_map.1 ha
        rw [List.any_eq_false] at g3
        exact g3 p hp (by simpa using E.inj _ _ hpe)
    · unfold updA
      rw [g3]
      simp [h3]
  · have hkey : ((es[j]?).map (·.key)).getD (enc x) = enc x := by
      rw [← Array.getElem?_toList, g2]; exact g3
    refine M.unit_i (w' := setBlock w r (.map (es.modify j fun e => { e with key := enc x, val := v }) c)) ?_ (h _ ⟨_, _, setBlock_at h1, ?_, ?_, ho'⟩ (setBlock_keep _ _ _) (hsz _))
    · simp only [Instr.mapUpdate, Sem.run_bind, run_underlying ht, Result.andThen_ok, MapKept.run_getObj_map h1, ck, g1, hkey, E.K.stays w hl, MapKept.run_setObj_map _ h1]
      rfl
    · obtain ⟨s1, s2, s3⟩ := h2
      have hb : (es.modify j fun e => { e with key := enc x, val := v }).toList.map (·.born) = es.toList.map (·.born) := by
        rw [Array.toList_modify]
        exact map_modify (g := fun e : MapEntry => e.born) (f := fun e => { e with key := enc x, val := v }) (fun e => rfl)
      have hk : (es.modify j fun e => { e with key := enc x, val := v }).toList.map (·.key) = es.toList.map (·.key) := by
        rw [Array.toList_modify]
        refine map_modify_at (fun e' he' => ?_)
        rw [g2] at he'; cases he'; exact g3.symm
      refine ⟨fun y hy => ?_, by rw [hb]; exact s2, by rw [hk]; exact s3⟩
      have : y.born ∈ es.toList.map (·.born) := by rw [← hb]; exact List.mem_map.2 ⟨y, hy, rfl⟩
      obtain ⟨z, hz, hze⟩ := List.mem_map.1 this
      rw [← hze]; exact s1 z hz
    · have hnk : (kv.map (fun p => enc p.1)).Nodup := by rw [← keysA_of h3]; exact h2.2.2
      rw [Array.toList_modify]
      unfold updA
      rw [if_pos g5]
      apply List.ext_getElem?
      intro i
      simp only [List.getElem?_map, List.getElem?_modify]
      cases hi : es.toList[i]? with
      | none =>
        have : kv[i]? = none := by
          have := congrArg (fun l => l[i]?) h3
          simp only [List.getElem?_map, hi, Option.map_none] at this
          cases hk : kv[i]? with
          | none => rfl
          | some p => rw [hk] at this; simp at this
        simp [this]
      | some e' =>
        obtain ⟨p, hp, e1, e2⟩ := entA_of h3 hi
        by_cases hji : j = i
        · subst hji
          rw [g2] at hi; cases hi
          rw [g3] at e1
          have e1 := E.inj _ _ e1
          simp [hp, e1]
        · obtain ⟨p', hp', e1', _⟩ := entA_of h3 g2
          rw [g3] at e1'
          have e1' := E.inj _ _ e1'
          have hne : p.1 ≠ x := fun hx => by
            obtain ⟨a1, a2⟩ := List.getElem?_eq_some_iff.1 hp
            obtain ⟨b1, b2⟩ := List.getElem?_eq_some_iff.1 hp'
            have hh := List.pairwise_iff_getElem.1 hnk
            rcases Nat.lt_or_ge i j with h | h
            · have := hh i j (by simpa using a1) (by simpa using b1) h
              simp only [List.getElem_map, a2, b2, ne_eq] at this
              exact this (by rw [hx, e1'])
            · have := hh j i (by simpa using b1) (by simpa using a1) (by omega)
              simp only [List.getElem_map, a2, b2, ne_eq] at this
              exact this (by rw [hx, e1'])
          simp [hp, hji, hne, e1, e2]
end
/-- 'v, is := m[x]' by whole numbers. -/
theorem M.lookupOk_i {P : Program} {k : Kt} {w : World} {T kt et : TypeId} {r : Nat} {kv : List (Int × Value)} {x : Int} {z : Value} (ht : P.underlying T = some (.map kt et)) (hkt : P.underlying kt = some (.int .i64)) (hz : ∀ w, (zeroValue et).run P w = .ok z w) (hm : MapO w r kv)
    (h : k (.tuple #[(lkp kv x).getD z, .bool (lkp kv x).isSome]) w) : readW P (Instr.lookup T (.map (some r)) (vi x) true) k w := by
  obtain ⟨es, c, h1, h2, h3⟩ := hm
  have ck : ∀ e w, (Instr.checkKey e 10000 kt (vi x)).run P w = .ok () w := fun e w => run_checkKey hkt (show IsKey (.int .i64) (vi x) from rfl) e 9999
  refine ⟨_, ?_, h⟩
  rcases find_spec h3 h2.2.2 x with ⟨g1, g2, _⟩ | ⟨j, e, g1, g2, g3, g4, _⟩
  · simp [Instr.lookup, run_underlying ht, MapKept.run_getObj_map h1, ck, run_findKey hkt g1, g2, hz]
  · simp [Instr.lookup, run_underlying ht, MapKept.run_getObj_map h1, ck, run_findKey hkt g1, g4]
end Go.Mw
