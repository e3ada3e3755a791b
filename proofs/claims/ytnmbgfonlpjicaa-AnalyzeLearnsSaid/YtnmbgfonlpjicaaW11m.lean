import Derived.Test.YtnmbgfonlpjicaaW11l
namespace Go.Proofs.Ytnmbgfonlpjicaa
open Go.Mw Go.MapKept Go.ChangeMaps
set_option linter.unusedVariables false
set_option linter.unusedSimpArgs false
set_option maxRecDepth 100000
attribute [local irreducible] M.val M.unit M.next M.pick M.new M.nilCheck M.load1 M.loadA M.store M.fieldAddr M.indexSl M.indexArr M.slice M.makeSlice M.buildSlice M.len M.lenS M.cap M.append M.extract M.conv M.not M.neg M.bin M.shift M.eqB M.eqNil M.call M.callv M.gd M.share M.cond M.loop M.draw pureW readW Ret
theorem filter_erase {kv : List (Int × Value)} (hn : (kv.map (·.1)).Nodup) {j : Nat} {p : Int × Value} (hp : kv[j]? = some p) : kv.filter (fun q => decide (q.1 ≠ p.1)) = kv.eraseIdx j := by
  induction kv generalizing j with
  | nil => simp at hp
  | cons a kv ih =>
    rw [List.map_cons, List.nodup_cons] at hn
    cases j with
    | zero =>
      simp only [List.getElem?_cons_zero, Option.some.injEq] at hp
      subst hp
      rw [List.filter_cons]
      simp only [ne_eq, not_true_eq_false, decide_false, Bool.false_eq_true, if_false, List.eraseIdx_cons_zero]
      rw [List.filter_eq_self]
      intro q hq
      simp only [decide_eq_true_eq]
      intro e
      exact hn.1 (by rw [← e]; exact List.mem_map_of_mem hq)
    | succ j =>
      simp only [List.getElem?_cons_succ] at hp
      have hne : a.1 ≠ p.1 := fun e => hn.1 (by rw [e]; exact List.mem_map_of_mem (List.mem_of_getElem? hp))
      rw [List.filter_cons, if_pos (by simpa using hne), List.eraseIdx_cons_succ, ih hn.2 hp]
theorem map_erase {α β : Type} (f : α → β) : ∀ (l : List α) (k : Nat), (l.eraseIdx k).map f = (l.map f).eraseIdx k
  | [], _ => rfl
  | a :: l, 0 => rfl
  | a :: l, k + 1 => by
    rw [List.eraseIdx_cons_succ, List.map_cons, List.map_cons, List.eraseIdx_cons_succ, map_erase f l k]
theorem M.delete_i {k : Kt} {w : World} {T kt et ty : TypeId} {cs : Array Bool} {r : Nat} {kv : List (Int × Value)} {x : Int} (ht : Try.prog.underlying T = some (.map kt et)) (hkt : Try.prog.underlying kt = some (.int .i64)) (hm : MapO w r kv)
    (h : ∀ w', MapO w' r (kv.filter (fun p => decide (p.1 ≠ x))) → Keep w w' (· = r) → w'.heap.size = w.heap.size → k (.tuple #[]) w') : M.next Try.prog (builtin .delete #[T, kt] ty cs #[.map (some r), vi x]) k w := by
  obtain ⟨es, c, h1, h2, h3⟩ := hm
  have ck : ∀ e w, (Instr.checkKey e 10000 kt (vi x)).run Try.prog w = .ok () w := fun e w => run_checkKey hkt (show IsKey (.int .i64) (vi x) from rfl) e 9999
  have hsz : ∀ o, (setBlock w r o).heap.size = w.heap.size := fun o => by simp [setBlock]
  have hnk : (kv.map (·.1)).Nodup := by
    have h4 := h2.2.2
    rw [keys_of h3] at h4
    have : (kv.map (fun p => vi p.1)) = (kv.map (·.1)).map vi := by rw [List.map_map]; rfl
    rw [this] at h4
    exact List.Pairwise.of_map vi (fun a b h e => h (by rw [e])) h4
  rcases find_spec h3 h2.2.2 x with ⟨g1, g2, g3⟩ | ⟨j, e, g1, g2, g3, g4, g5⟩
  · refine M.next_i (v := .tuple #[]) (w' := setBlock w r (.map es c)) ?_ (h _ ⟨_, _, setBlock_at h1, h2, ?_⟩ (setBlock_keep _ _ _) (hsz _))
    · simp [Builtin.delete_, run_underlying ht, MapKept.run_getObj_map h1, ck, run_findKey hkt g1, MapKept.run_setObj_map _ h1, Result.andThen]
      rfl
    · rw [h3]
      congr 1
      symm
      rw [List.filter_eq_self]
      intro p hp
      rw [List.any_eq_false] at g3
      simpa using g3 p hp
  · refine M.next_i (v := .tuple #[]) (w' := setBlock w r (.map (es.eraseIdxIfInBounds j) c)) ?_ (h _ ⟨_, _, setBlock_at h1, stamped_erase h2 _, ?_⟩ (setBlock_keep _ _ _) (hsz _))
    · simp [Builtin.delete_, run_underlying ht, MapKept.run_getObj_map h1, ck, run_findKey hkt g1, MapKept.run_setObj_map _ h1, Result.andThen]
      rfl
    · obtain ⟨p, hp, e1, e2⟩ := ent_of h3 g2
      rw [g3] at e1
      simp only [Value.int.injEq, true_and] at e1
      subst e1
      rw [filter_erase hnk hp, map_erase, ← h3]
      have hj : j < es.size := by
        have := (List.getElem?_eq_some_iff.1 g2).1
        simpa using this
      unfold Array.eraseIdxIfInBounds
      rw [dif_pos hj, Array.toList_eraseIdx, map_erase]
/-! ### Remove, Clause, Len -/
def Wt.rem (s : Wt) (i : Int) : Wt := { s with cls := s.cls.filter (fun c => decide ((c.n : Int) ≠ i)) }
theorem M.lenMap_i {k : Kt} {w : World} {t ty : TypeId} {cs : Array Bool} {r : Nat} {kv : List (Int × Value)} (ht : Try.prog.underlying t = some (.map (Try.prog.mapKeyOf t) (Try.prog.mapElemOf t))) (hm : MapO w r kv) (h : k (vi kv.length) w) :
    M.next Try.prog (builtin .len #[t] ty cs #[.map (some r)]) k w := by
  obtain ⟨es, c, h1, h2, h3⟩ := hm
  have hl : es.size = kv.length := by
    have := congrArg List.length h3
    simpa using this
  refine M.next_i (v := vi kv.length) (w' := w) ?_ h
  have := run_len_map (P := Try.prog) w t ty r es c ht h1
  rw [hl] at this
  exact this
section
variable {w w1 : World} {p q r : Nat} {lab ow bk : Nat → Nat} {cv : Nat → Value} {wv : Value} {t : Tr} {s : Wt} {vb vw1 vd : Value} {bvs : List Value} {O : Nat → Prop}
end
end Go.Proofs.Ytnmbgfonlpjicaa
