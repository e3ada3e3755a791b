import Derived.Test.YtanjlgafjgoaaaaLib2
import Derived.Maps.RangeRun
import Derived.MapKept
namespace Go.Mw
open Go.MapKept Go.ChangeMaps
set_option linter.unusedVariables false
set_option linter.unusedSimpArgs false
/-! ### a map by whole numbers -/
def MapO (w : World) (r : Nat) (kv : List (Int × Value)) : Prop :=
  ∃ es clock, w.heap[r]? = some (.map es clock) ∧ Stamped es clock ∧ es.toList.map (fun e => (e.key, e.val)) = kv.map (fun p => (vi p.1, p.2))
theorem MapO.keep {w w' : World} {r : Nat} {kv : List (Int × Value)} {S : Nat → Prop} (h : MapO w r kv) (k : Keep w w' S) (hs : ¬ S r) : MapO w' r kv := by
  obtain ⟨es, c, h1, h2⟩ := h
  exact ⟨es, c, by rw [k.blk r (lt_of_heap h1) hs]; exact h1, h2⟩
theorem MapO.lt {w : World} {r : Nat} {kv : List (Int × Value)} (h : MapO w r kv) : r < w.heap.size := by
  obtain ⟨es, c, h1, h2⟩ := h
  exact lt_of_heap h1
def lkp (kv : List (Int × Value)) (x : Int) : Option Value := (kv.find? (fun p => decide (p.1 = x))).map (·.2)
def upd (kv : List (Int × Value)) (x : Int) (v : Value) : List (Int × Value) := if kv.any (fun p => decide (p.1 = x)) then kv.map (fun p => if p.1 = x then (x, v) else p) else kv ++ [(x, v)]
theorem keys_of {es : List MapEntry} {kv : List (Int × Value)} (h : es.map (fun e => (e.key, e.val)) = kv.map (fun p => (vi p.1, p.2))) : es.map (·.key) = kv.map (fun p => vi p.1) := by
  have := congrArg (List.map Prod.fst) h
  simpa [List.map_map, Function.comp_def] using this
theorem ent_of {es : List MapEntry} {kv : List (Int × Value)} (h : es.map (fun e => (e.key, e.val)) = kv.map (fun p => (vi p.1, p.2))) {j : Nat} {e : MapEntry} (he : es[j]? = some e) : ∃ p, kv[j]? = some p ∧ e.key = vi p.1 ∧ e.val = p.2 := by
  have := congrArg (fun l => l[j]?) h
  simp only [List.getElem?_map, he, Option.map_some] at this
  cases hk : kv[j]? with
  | none => rw [hk] at this; simp at this
  | some p =>
    rw [hk] at this
    simp only [Option.map_some, Option.some.injEq, Prod.mk.injEq] at this
    exact ⟨p, rfl, this.1, this.2⟩
theorem find_spec {es : List MapEntry} {kv : List (Int × Value)} (h : es.map (fun e => (e.key, e.val)) = kv.map (fun p => (vi p.1, p.2))) (hn : (es.map (·.key)).Nodup) (x : Int) :
    (Instr.findNow (.int .i64) (vi x) es 0 = some none ∧ lkp kv x = none ∧ kv.any (fun p => decide (p.1 = x)) = false) ∨
    ∃ j e, Instr.findNow (.int .i64) (vi x) es 0 = some (some (j, e.val)) ∧ es[j]? = some e ∧ e.key = vi x ∧ lkp kv x = some e.val ∧ kv.any (fun p => decide (p.1 = x)) = true := by
  have hk : ∀ e ∈ es, IsKey (.int .i64) e.key := fun e he => by
    obtain ⟨j, hj⟩ := List.mem_iff_getElem?.1 he
    obtain ⟨p, _, h1, _⟩ := ent_of h hj
    rw [h1]; rfl
  rcases findNow_spec (d := .int .i64) (k := vi x) rfl es 0 hk with ⟨h1, h2⟩ | ⟨j, e, h1, h2, h3⟩
  · left
    have hno : ∀ p ∈ kv, p.1 ≠ x := fun p hp hx => by
      have : vi p.1 ∈ es.map (·.key) := by rw [keys_of h]; exact List.mem_map.2 ⟨p, hp, rfl⟩
      obtain ⟨e, he, hek⟩ := List.mem_map.1 this
      exact h2 e he (by rw [hek, hx])
    refine ⟨h1, ?_, ?_⟩
    · unfold lkp
      rw [List.find?_eq_none.2 (fun p hp => by simpa using hno p hp)]; rfl
    · rw [List.any_eq_false]
      intro p hp; simpa using hno p hp
  · right
    obtain ⟨p, hp, e1, e2⟩ := ent_of h h2
    rw [h3] at e1
    simp only [Value.int.injEq, true_and] at e1
    have hnk : (kv.map (fun p => vi p.1)).Nodup := by rw [← keys_of h]; exact hn
    refine ⟨j, e, by simpa using h1, h2, h3, ?_, List.any_eq_true.2 ⟨p, List.mem_of_getElem? hp, by simp [e1]⟩⟩
    unfold lkp
    have : kv.find? (fun p => decide (p.1 = x)) = some p := by
      rw [List.find?_eq_some_iff_getElem]
      obtain ⟨hlt, hpe⟩ := List.getElem?_eq_some_iff.1 hp
      refine ⟨by simp [e1], j, hlt, hpe, fun i hi => ?_⟩
      have := List.pairwise_iff_getElem.1 hnk i j (by simp; omega) (by simpa using hlt) hi
      simp only [List.getElem_map, hpe, ne_eq, Value.int.injEq, true_and] at this
      simp only [Bool.not_eq_true', decide_eq_false_iff_not]
      intro hh; exact this (by rw [hh, ← e1])
    rw [this, Option.map_some, e2]
theorem map_modify {α β : Type} {g : α → β} {f : α → α} (h : ∀ a, g (f a) = g a) {l : List α} {j : Nat} : (l.modify j f).map g = l.map g := by
  apply List.ext_getElem?
  intro i
  simp only [List.getElem?_map, List.getElem?_modify]
  cases l[i]? with
  | none => simp
  | some a => by_cases hj : j = i <;> simp [hj, h]
theorem map_modify_at {α β : Type} {g : α → β} {f : α → α} {l : List α} {j : Nat} (h : ∀ a, l[j]? = some a → g (f a) = g a) : (l.modify j f).map g = l.map g := by
  apply List.ext_getElem?
  intro i
  simp only [List.getElem?_map, List.getElem?_modify]
  cases hi : l[i]? with
  | none => simp
  | some a =>
    by_cases hj : j = i
    · subst hj; simp [h a hi]
    · simp [hj]
theorem nodup_idx {α : Type} {l : List α} (h : l.Nodup) {i j : Nat} {a : α} (hi : l[i]? = some a) (hj : l[j]? = some a) : i = j := by
  obtain ⟨a1, a2⟩ := List.getElem?_eq_some_iff.1 hi
  obtain ⟨b1, b2⟩ := List.getElem?_eq_some_iff.1 hj
  have hh := List.pairwise_iff_getElem.1 h
  rcases Nat.lt_trichotomy i j with h1 | h1 | h1
  · exact absurd (a2.trans b2.symm) (hh i j a1 b1 h1)
  · exact h1
  · exact absurd (b2.trans a2.symm) (hh j i b1 a1 h1)
section
variable {P : Program} {k : Kt} {w : World}
theorem M.val_i {s : Sem Value} {v : Value} {w' : World} (h : s.run P w = .ok v w') (hk : k v w') : M.val P s k w := execW_value h hk
theorem M.unit_i {s : Sem Unit} {w' : World} (h : s.run P w = .ok () w') (hk : k undef w') : M.unit P s k w := execW_unit h hk
theorem M.makeMap_i {T : TypeId} (h : ∀ w', MapO w' w.heap.size [] → Keep w w' No → w'.heap.size = w.heap.size + 1 → k (.map (some w.heap.size)) w') : M.val P (Instr.makeMap T none) k w :=
  M.val_i (show (Instr.makeMap T none).run P w = .ok (.map (some w.heap.size)) (w.alloc (.map #[] 0)) from rfl) (h _ ⟨#[], 0, alloc_new w _, by simp [Stamped], rfl⟩ (Keep.alloc w _ _) (by simp))
theorem M.lookup_i {T kt et : TypeId} {r : Nat} {kv : List (Int × Value)} {x : Int} {z : Value} (ht : P.underlying T = some (.map kt et)) (hkt : P.underlying kt = some (.int .i64)) (hz : ∀ w, (zeroValue et).run P w = .ok z w) (hm : MapO w r kv)
    (h : k ((lkp kv x).getD z) w) : readW P (Instr.lookup T (.map (some r)) (vi x) false) k w := by
  obtain ⟨es, c, h1, h2, h3⟩ := hm
  have ck : ∀ e w, (Instr.checkKey e 10000 kt (vi x)).run P w = .ok () w := fun e w => run_checkKey hkt (show IsKey (.int .i64) (vi x) from rfl) e 9999
  refine ⟨_, ?_, h⟩
  rcases find_spec h3 h2.2.2 x with ⟨g1, g2, _⟩ | ⟨j, e, g1, g2, g3, g4, _⟩
  · simp [Instr.lookup, run_underlying ht, MapKept.run_getObj_map h1, ck, run_findKey hkt g1, g2, hz]
  · simp [Instr.lookup, run_underlying ht, MapKept.run_getObj_map h1, ck, run_findKey hkt g1, g4]
theorem setBlock_keep (w : World) (b : Nat) (o : Obj) : Keep w (setBlock w b o) (· = b) :=
  ⟨rfl, rfl, rfl, by simp [setBlock], fun i hi hn => by simp [setBlock, Array.getElem?_setIfInBounds]; intro h; exact absurd h.symm hn⟩
theorem setBlock_at {w : World} {b : Nat} {o o' : Obj} (h : w.heap[b]? = some o) : (setBlock w b o').heap[b]? = some o' := (heap_set h).1
theorem M.mapUpdate_i {T kt et : TypeId} {r : Nat} {kv : List (Int × Value)} {x : Int} {v : Value} (ht : P.underlying T = some (.map kt et)) (hkt : P.underlying kt = some (.int .i64)) (hm : MapO w r kv)
    (h : ∀ w', MapO w' r (upd kv x v) → Keep w w' (· = r) → w'.heap.size = w.heap.size → k undef w') : M.unit P (Instr.mapUpdate T (.map (some r)) (vi x) v) k w := by
  obtain ⟨es, c, h1, h2, h3⟩ := hm
  have ck : ∀ e w, (Instr.checkKey e 10000 kt (vi x)).run P w = .ok () w := fun e w => run_checkKey hkt (show IsKey (.int .i64) (vi x) from rfl) e 9999
  have hsz : ∀ o, (setBlock w r o).heap.size = w.heap.size := fun o => by simp [setBlock]
  rcases find_spec h3 h2.2.2 x with ⟨g1, g2, g3⟩ | ⟨j, e, g1, g2, g3, g4, g5⟩
  · refine M.unit_i (w' := setBlock w r (.map (es.push { key := vi x, val := v, born := c }) (c + 1))) ?_ (h _ ⟨_, _, setBlock_at h1, ?_, ?_⟩ (setBlock_keep _ _ _) (hsz _))
    · simp [Instr.mapUpdate, run_underlying ht, MapKept.run_getObj_map h1, ck, run_findKey hkt g1, MapKept.run_setObj_map _ h1]
      rfl
    · obtain ⟨s1, s2, s3⟩ := h2
      refine ⟨fun y hy => ?_, ?_, ?_⟩
      · simp only [Array.toList_push, List.mem_append, List.mem_singleton] at hy
        rcases hy with hy | rfl
        · have := s1 y hy; omega
        · simp
      · simp only [Array.toList_push, List.map_append, List.map_cons, List.map_nil]
        refine List.nodup_append.2 ⟨s2, by simp, fun a ha b hb => ?_⟩
        simp at hb; subst hb
        obtain ⟨y, hy, rfl⟩ := List.mem_map.1 ha
        have := s1 y hy; omega
      · simp only [Array.toList_push, List.map_append, List.map_cons, List.map_nil]
        refine List.nodup_append.2 ⟨s3, by simp, fun a ha b hb => ?_⟩
        simp at hb; subst hb
        intro hax
        rw [hax, keys_of h3] at ha
        obtain ⟨p, hp, hpe⟩ := List.mem_map.1 ha
        rw [List.any_eq_false] at g3
        simp only [Value.int.injEq, true_and] at hpe
        exact g3 p hp (by simpa using hpe)
    · unfold upd
      rw [g3]
      simp [h3]
  · have hkey : ((es[j]?).map (·.key)).getD (vi x) = vi x := by
      rw [← Array.getElem?_toList, g2]; exact g3
    refine M.unit_i (w' := setBlock w r (.map (es.modify j fun e => { e with key := vi x, val := v }) c)) ?_ (h _ ⟨_, _, setBlock_at h1, ?_, ?_⟩ (setBlock_keep _ _ _) (hsz _))
    · simp only [Instr.mapUpdate, Sem.run_bind, run_underlying ht, Result.andThen_ok, MapKept.run_getObj_map h1, ck, run_findKey hkt g1, hkey, run_keyThatStays (d := .int .i64) (k := vi x) rfl, MapKept.run_setObj_map _ h1]
      rfl
    · obtain ⟨s1, s2, s3⟩ := h2
      have hb : (es.modify j fun e => { e with key := vi x, val := v }).toList.map (·.born) = es.toList.map (·.born) := by
        rw [Array.toList_modify]
        exact map_modify (g := fun e : MapEntry => e.born) (f := fun e => { e with key := vi x, val := v }) (fun e => rfl)
      have hk : (es.modify j fun e => { e with key := vi x, val := v }).toList.map (·.key) = es.toList.map (·.key) := by
        rw [Array.toList_modify]
        refine map_modify_at (fun e' he' => ?_)
        rw [g2] at he'; cases he'; exact g3.symm
      refine ⟨fun y hy => ?_, by rw [hb]; exact s2, by rw [hk]; exact s3⟩
      have : y.born ∈ es.toList.map (·.born) := by rw [← hb]; exact List.mem_map.2 ⟨y, hy, rfl⟩
      obtain ⟨z, hz, hze⟩ := List.mem_map.1 this
      rw [← hze]; exact s1 z hz
    · have hnk : (kv.map (fun p => vi p.1)).Nodup := by rw [← keys_of h3]; exact h2.2.2
      rw [Array.toList_modify]
      unfold upd
      rw [if_pos g5]
      apply List.ext_getElem?
      intro i
      simp only [List.getElem?_map, List.getElem?_modify]
      cases hi : es.toList[i]? with
      | none =>
        have : kv[i]? = none := by
          have := congrArg (fun l => l[i]?) h3
          simp only [List.getElem?_map, hi, Option.map_none] at this
          cases hk : kv[i]? with
          | none => rfl
          | some p => rw [hk] at this; simp at this
        simp [this]
      | some e' =>
        obtain ⟨p, hp, e1, e2⟩ := ent_of h3 hi
        by_cases hji : j = i
        · subst hji
          rw [g2] at hi; cases hi
          rw [g3] at e1
          simp only [Value.int.injEq, true_and] at e1
          simp [hp, e1]
        · obtain ⟨p', hp', e1', _⟩ := ent_of h3 g2
          rw [g3] at e1'
          simp only [Value.int.injEq, true_and] at e1'
          have hne : p.1 ≠ x := fun hx => by
            obtain ⟨a1, a2⟩ := List.getElem?_eq_some_iff.1 hp
            obtain ⟨b1, b2⟩ := List.getElem?_eq_some_iff.1 hp'
            have hh := List.pairwise_iff_getElem.1 hnk
            rcases Nat.lt_or_ge i j with h | h
            · have := hh i j (by simpa using a1) (by simpa using b1) h
              simp only [List.getElem_map, a2, b2, ne_eq, Value.int.injEq, true_and] at this
              exact this (by rw [hx, e1'])
            · have := hh j i (by simpa using b1) (by simpa using a1) (by omega)
              simp only [List.getElem_map, a2, b2, ne_eq, Value.int.injEq, true_and] at this
              exact this (by rw [hx, e1'])
          simp [hp, hji, hne, e1, e2]
/-! ### a walk over a map -/
/-- The walk's object, and which keys it has still to hand out; 'last': what it handed out last. -/
def IterO (w : World) (it r : Nat) (kv : List (Int × Value)) (left : List Int) (last : Option Int) : Prop :=
  ∃ es clock seen c0, w.heap[r]? = some (.map es clock) ∧ Stamped es clock ∧ es.toList.map (fun e => (e.key, e.val)) = kv.map (fun p => (vi p.1, p.2)) ∧ w.heap[it]? = some (.mapIter (some r) clock seen c0) ∧ clock ≤ c0 ∧
    (∀ x, x ∈ left ↔ ∃ e ∈ (leftOf es seen).toList, e.key = vi x) ∧ ∀ x, last = some x → c0 = clock ∧ ∃ e ∈ es.toList, e.key = vi x ∧ ∃ s' : Array Nat, seen = s'.push e.born
theorem IterO.keep {w w' : World} {it r : Nat} {kv : List (Int × Value)} {left : List Int} {last : Option Int} {S : Nat → Prop} (h : IterO w it r kv left last) (k : Keep w w' S) (h1 : ¬ S it) (h2 : ¬ S r) : IterO w' it r kv left last := by
  obtain ⟨es, c, seen, c0, g1, g2, g3, g4, g5⟩ := h
  exact ⟨es, c, seen, c0, by rw [k.blk r (lt_of_heap g1) h2]; exact g1, g2, g3, by rw [k.blk it (lt_of_heap g4) h1]; exact g4, g5⟩
theorem IterO.map {w : World} {it r : Nat} {kv : List (Int × Value)} {left : List Int} {last : Option Int} (h : IterO w it r kv left last) : MapO w r kv := by
  obtain ⟨es, c, seen, c0, g1, g2, g3, g4, g5⟩ := h
  exact ⟨es, c, g1, g2, g3⟩
theorem M.range_i {P : Program} {k : Kt} {w : World} {T kt et : TypeId} {r : Nat} {kv : List (Int × Value)} (ht : P.underlying T = some (.map kt et)) (hm : MapO w r kv)
    (h : ∀ w', IterO w' w.heap.size r kv (kv.map (·.1)) none → Keep w w' No → w'.heap.size = w.heap.size + 1 → k (.pointer (some ⟨w.heap.size, 0, none⟩)) w') : M.val P (Instr.range T (.map (some r))) k w := by
  obtain ⟨es, c, h1, h2, h3⟩ := hm
  have k1 := Keep.alloc w (.mapIter (some r) c #[] c) No
  refine M.val_i (run_range_map w T kt et r es c ht h1) (h _ ⟨es, c, #[], c, by rw [k1.blk r (lt_of_heap h1) (fun h => h)]; exact h1, h2, h3, alloc_new w _, Nat.le_refl _, fun x => ?_, fun x hx => by cases hx⟩ k1 (by simp))
  have e : (leftOf es #[]).toList = es.toList := by simp [leftOf]
  rw [e]
  constructor
  · intro hx
    obtain ⟨p, hp, rfl⟩ := List.mem_map.1 hx
    have : vi p.1 ∈ es.toList.map (·.key) := by rw [keys_of h3]; exact List.mem_map.2 ⟨p, hp, rfl⟩
    obtain ⟨e, he, hk⟩ := List.mem_map.1 this
    exact ⟨e, he, hk⟩
  · rintro ⟨e, he, hk⟩
    obtain ⟨j, hj⟩ := List.mem_iff_getElem?.1 he
    obtain ⟨p, hp, e1, _⟩ := ent_of h3 hj
    rw [hk] at e1
    simp only [Value.int.injEq, true_and] at e1
    exact List.mem_map.2 ⟨p, List.mem_of_getElem? hp, e1.symm⟩
theorem M.mapNext_i {P : Program} {k : Kt} {w : World} {ty : TypeId} {it r : Nat} {kv : List (Int × Value)} {left : List Int} {last : Option Int} (hi : IterO w it r kv left last) (hne : it ≠ r)
    (h0 : left = [] → k (.tuple #[.bool false]) w)
    (h1 : ∀ x v w', x ∈ left → (x, v) ∈ kv → IterO w' it r kv (left.filter (decide <| · ≠ x)) (some x) → Keep w w' (· = it) → w'.heap.size = w.heap.size → k (.tuple #[.bool true, vi x, v]) w') :
    M.val P (Instr.next (.pointer (some ⟨it, 0, none⟩)) false ty) k w := by
  obtain ⟨es, c, seen, c0, g1, g2, g3, g4, g5, g6, g7⟩ := hi
  rcases run_next_at (P := P) w ty it r c c0 seen es c g4 g1 g2.1 g5 with ⟨hz, run⟩ | ⟨e, he, w1, hw1, run⟩
  · refine M.val_i run (h0 ?_)
    cases left with
    | nil => rfl
    | cons x l =>
      obtain ⟨e, he, _⟩ := (g6 x).1 List.mem_cons_self
      have : (leftOf es seen).toList.length = 0 := by simpa using hz
      rw [List.length_eq_zero_iff.1 this] at he
      cases he
  · have hmem : e ∈ es.toList ∧ ¬ seen.contains e.born = true := by
      unfold leftOf at he
      simp at he
      simp [he]
    obtain ⟨j, hj⟩ := List.mem_iff_getElem?.1 hmem.1
    obtain ⟨p, hp, e1, e2⟩ := ent_of g3 hj
    rw [e1, e2] at run
    have hk1 : Keep w w1 No := by rcases hw1 with rfl | rfl; exact Keep.refl _ _; exact Keep.drew _ _
    have h1heap : ∀ i : Nat, w1.heap[i]? = w.heap[i]? := fun i => by rcases hw1 with rfl | rfl <;> rfl
    have kk : Keep w (setBlock w1 it (.mapIter (some r) c (seen.push e.born) c)) (· = it) := (hk1.mono (T := (· = it)) (fun _ _ h => h.elim)).trans (setBlock_keep _ _ _) (fun _ _ h => h)
    have ks : (setBlock w1 it (.mapIter (some r) c (seen.push e.born) c)).heap.size = w.heap.size := by rcases hw1 with rfl | rfl <;> simp [setBlock] <;> rfl
    refine M.val_i run (h1 p.1 p.2 _ ((g6 _).2 ⟨e, he, e1⟩) (by have := List.mem_of_getElem? hp; exact this) ⟨es, c, seen.push e.born, c, ?_, g2, g3, setBlock_at (by rw [h1heap]; exact g4), Nat.le_refl _, ?_, ?_⟩ kk ks)
    · rw [kk.blk r (lt_of_heap g1) (fun h => hne h.symm)]; exact g1
    · intro y
      rw [List.mem_filter, g6]
      constructor
      · rintro ⟨⟨f, hf, hfk⟩, hy⟩
        refine ⟨f, ?_, hfk⟩
        unfold leftOf at hf ⊢
        simp only [Array.toList_filter, List.mem_filter] at hf ⊢
        refine ⟨hf.1, ?_⟩
        have hfe : f.born ≠ e.born := fun hb => by
          obtain ⟨i, hi⟩ := List.mem_iff_getElem?.1 hf.1
          have hnb := g2.2.1
          have : i = j := nodup_idx hnb (a := e.born) (by simp [hi, hb]) (by simp [hj])
          subst this
          rw [hj] at hi; cases hi
          rw [hfk] at e1
          simp only [Value.int.injEq, true_and] at e1
          simp [e1] at hy
        have := hf.2
        simp at this ⊢
        exact ⟨this, hfe⟩
      · rintro ⟨f, hf, hfk⟩
        unfold leftOf at hf
        simp only [Array.toList_filter, List.mem_filter] at hf
        have hf2 := hf.2
        simp at hf2
        refine ⟨⟨f, ?_, hfk⟩, ?_⟩
        · unfold leftOf
          simp only [Array.toList_filter, List.mem_filter]
          exact ⟨hf.1, by simpa using hf2.1⟩
        · have : y ≠ p.1 := fun hy => by
            obtain ⟨i, hi⟩ := List.mem_iff_getElem?.1 hf.1
            have : i = j := nodup_idx g2.2.2 (a := vi y) (by simp [hi, hfk]) (by simp [hj, e1, hy])
            subst this
            rw [hj] at hi; cases hi
            exact hf2.2 rfl
          simpa using this
    · rintro x hx
      cases hx
      exact ⟨rfl, e, hmem.1, e1, seen, rfl⟩
theorem M.entry_i {P : Program} {k : Kt} {w : World} {it r : Nat} {kv : List (Int × Value)} {left : List Int} {x : Int} (hi : IterO w it r kv left (some x)) (h : ∀ v, (x, v) ∈ kv → k (.tuple #[vi x, v]) w) :
    M.val P (Instr.entry (.pointer (some ⟨it, 0, none⟩))) k w := by
  obtain ⟨es, c, seen, c0, g1, g2, g3, g4, g5, g6, g7⟩ := hi
  obtain ⟨rfl, e, he, hk, s', rfl⟩ := g7 x rfl
  obtain ⟨j, hj⟩ := List.mem_iff_getElem?.1 he
  obtain ⟨p, hp, e1, e2⟩ := ent_of g3 hj
  have run := run_entry_at (P := P) w it r c0 s' es c0 e g4 g1 he g2.2.1
  rw [hk] at e1
  simp only [Value.int.injEq, true_and] at e1
  rw [hk, e2] at run
  refine M.val_i run (h _ ?_)
  have := List.mem_of_getElem? hp
  rw [e1]; exact this
end
end Go.Mw
