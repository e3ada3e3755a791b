import Derived.Test.YtnkechekdncnlaaW11l
namespace Go.Proofs.Ytnkechekdncnlaa
open Go.Mw Go.MapKept Go.ChangeMaps
set_option linter.unusedVariables false
set_option linter.unusedSimpArgs false
set_option maxRecDepth 100000
attribute [local irreducible] M.val M.unit M.next M.pick M.new M.nilCheck M.load1 M.loadA M.store M.fieldAddr M.indexSl M.indexArr M.slice M.makeSlice M.buildSlice M.len M.lenS M.cap M.append M.extract M.conv M.not M.neg M.bin M.shift M.eqB M.eqNil M.call M.callv M.gd M.share M.cond M.loop M.draw pureW readW Ret
theorem filter_erase {kv : List (Int × Value)} (hn : (kv.map (·.1)).Nodup) {j : Nat} {p : Int × Value} (hp : kv[j]? = some p) : kv.filter (fun q => decide (q.1 ≠ p.1)) = kv.eraseIdx j := by
  induction kv generalizing j with
  | nil => simp at hp
  | cons a kv ih =>
    rw [List.map_cons, List.nodup_cons] at hn
    cases j with
    | zero =>
      simp only [List.getElem?_cons_zero, Option.some.injEq] at hp
      subst hp
      rw [List.filter_cons]
      simp only [ne_eq, not_true_eq_false, decide_false, Bool.false_eq_true, if_false, List.eraseIdx_cons_zero]
      rw [List.filter_eq_self]
      intro q hq
      simp only [decide_eq_true_eq]
      intro e
      exact hn.1 (by rw [← e]; exact List.mem_map_of_mem hq)
    | succ j =>
      simp only [List.getElem?_cons_succ] at hp
      have hne : a.1 ≠ p.1 := fun e => hn.1 (by rw [e]; exact List.mem_map_of_mem (List.mem_of_getElem? hp))
      rw [List.filter_cons, if_pos (by simpa using hne), List.eraseIdx_cons_succ, ih hn.2 hp]
theorem map_erase {α β : Type} (f : α → β) : ∀ (l : List α) (k : Nat), (l.eraseIdx k).map f = (l.map f).eraseIdx k
  | [], _ => rfl
  | a :: l, 0 => rfl
  | a :: l, k + 1 => by
    rw [List.eraseIdx_cons_succ, List.map_cons, List.map_cons, List.eraseIdx_cons_succ, map_erase f l k]
theorem M.delete_i {k : Kt} {w : World} {T kt et ty : TypeId} {cs : Array Bool} {r : Nat} {kv : List (Int × Value)} {x : Int} (ht : Try.prog.underlying T = some (.map kt et)) (hkt : Try.prog.underlying kt = some (.int .i64)) (hm : MapO w r kv)
    (h : ∀ w', MapO w' r (kv.filter (fun p => decide (p.1 ≠ x))) → Keep w w' (· = r) → w'.heap.size = w.heap.size → k (.tuple #[]) w') : M.next Try.prog (builtin .delete #[T, kt] ty cs #[.map (some r), vi x]) k w := by
  obtain ⟨es, c, h1, h2, h3⟩ := hm
  have ck : ∀ e w, (Instr.checkKey e 10000 kt (vi x)).run Try.prog w = .ok () w := fun e w => run_checkKey hkt (show IsKey (.int .i64) (vi x) from rfl) e 9999
  have hsz : ∀ o, (setBlock w r o).heap.size = w.heap.size := fun o => by simp [setBlock]
  have hnk : (kv.map (·.1)).Nodup := by
    have h4 := h2.2.2
    rw [keys_of h3] at h4
    have : (kv.map (fun p => vi p.1)) = (kv.map (·.1)).map vi := by rw [List.map_map]; rfl
    rw [this] at h4
    exact List.Pairwise.of_map vi (fun a b h e => h (by rw [e])) h4
  rcases find_spec h3 h2.2.2 x with ⟨g1, g2, g3⟩ | ⟨j, e, g1, g2, g3, g4, g5⟩
  · refine M.next_i (v := .tuple #[]) (w' := setBlock w r (.map es c)) ?_ (h _ ⟨_, _, setBlock_at h1, h2, ?_⟩ (setBlock_keep _ _ _) (hsz _))
    · simp [Builtin.delete_, run_underlying ht, MapKept.run_getObj_map h1, ck, run_findKey hkt g1, MapKept.run_setObj_map _ h1, Result.andThen]
      rfl
    · rw [h3]
      congr 1
      symm
      rw [List.filter_eq_self]
      intro p hp
      rw [List.any_eq_false] at g3
      simpa using g3 p hp
  · refine M.next_i (v := .tuple #[]) (w' := setBlock w r (.map (es.eraseIdxIfInBounds j) c)) ?_ (h _ ⟨_, _, setBlock_at h1, stamped_erase h2 _, ?_⟩ (setBlock_keep _ _ _) (hsz _))
    · simp [Builtin.delete_, run_underlying ht, MapKept.run_getObj_map h1, ck, run_findKey hkt g1, MapKept.run_setObj_map _ h1, Result.andThen]
      rfl
    · obtain ⟨p, hp, e1, e2⟩ := ent_of h3 g2
      rw [g3] at e1
      simp only [Value.int.injEq, true_and] at e1
      subst e1
      rw [filter_erase hnk hp, map_erase, ← h3]
      have hj : j < es.size := by
        have := (List.getElem?_eq_some_iff.1 g2).1
        simpa using this
      unfold Array.eraseIdxIfInBounds
      rw [dif_pos hj, Array.toList_eraseIdx, map_erase]
/-! ### Remove, Clause, Len -/
def Wt.rem (s : Wt) (i : Int) : Wt := { s with cls := s.cls.filter (fun c => decide ((c.n : Int) ≠ i)) }
theorem rem_nil (v : Value) (w : World) : Ret Try.prog 10 #[nilp, v] w (fun r w' => r = .bool false ∧ Keep w w' No) := by
  refine ok10 _ _ _ _ ?_
  unfold sh10
  (repeat (first|refine ja ?_|refine jb ?_|refine jc ?_|refine jd ?_|refine je ?_|refine jf ?_|refine jg ?_|refine jh ?_|refine ji ?_|refine jj ?_|refine jk ?_|refine jl ?_|refine jm ?_|refine jn ?_|refine jo ?_|refine jp ?_|refine jq ?_|refine jr ?_|refine js ?_|refine jt ?_|refine ju ?_|refine jv ?_|refine jw ?_|refine jx ?_|refine jy ?_|refine jz ?_|refine jA ?_|refine jB ?_|refine jC ?_|refine jD ?_|refine jE ?_|refine jF ?_|refine jG ?_|refine jH ?_|refine jI ?_|refine jJ ?_|refine jK ?_|refine jL ?_|refine jM (by assumption) ?_|refine jN (by assumption) rfl ?_|refine jO (by assumption) ?_|refine jP (by assumption) rfl ?_|refine jQ ?_|refine jR ?_|refine jS ?_|refine jT ?_|refine jU (by assumption) rfl ?_))
  exact ⟨rfl, Keep.refl _ _⟩
theorem cla_nil (v : Value) (w : World) : Ret Try.prog 11 #[nilp, v] w (fun r w' => r = .slice none 0 0 ∧ Keep w w' No) := by
  refine ok11 _ _ _ _ ?_
  unfold sh11
  (repeat (first|refine ja ?_|refine jb ?_|refine jc ?_|refine jd ?_|refine je ?_|refine jf ?_|refine jg ?_|refine jh ?_|refine ji ?_|refine jj ?_|refine jk ?_|refine jl ?_|refine jm ?_|refine jn ?_|refine jo ?_|refine jp ?_|refine jq ?_|refine jr ?_|refine js ?_|refine jt ?_|refine ju ?_|refine jv ?_|refine jw ?_|refine jx ?_|refine jy ?_|refine jz ?_|refine jA ?_|refine jB ?_|refine jC ?_|refine jD ?_|refine jE ?_|refine jF ?_|refine jG ?_|refine jH ?_|refine jI ?_|refine jJ ?_|refine jK ?_|refine jL ?_|refine jM (by assumption) ?_|refine jN (by assumption) rfl ?_|refine jO (by assumption) ?_|refine jP (by assumption) rfl ?_|refine jQ ?_|refine jR ?_|refine jS ?_|refine jT ?_|refine jU (by assumption) rfl ?_))
  exact ⟨rfl, Keep.refl _ _⟩
theorem wlen_nil (w : World) : Ret Try.prog 12 #[nilp] w (fun r w' => r = vi 0 ∧ Keep w w' No) := by
  refine ok12 _ _ _ ?_
  unfold sh12
  (repeat (first|refine ja ?_|refine jb ?_|refine jc ?_|refine jd ?_|refine je ?_|refine jf ?_|refine jg ?_|refine jh ?_|refine ji ?_|refine jj ?_|refine jk ?_|refine jl ?_|refine jm ?_|refine jn ?_|refine jo ?_|refine jp ?_|refine jq ?_|refine jr ?_|refine js ?_|refine jt ?_|refine ju ?_|refine jv ?_|refine jw ?_|refine jx ?_|refine jy ?_|refine jz ?_|refine jA ?_|refine jB ?_|refine jC ?_|refine jD ?_|refine jE ?_|refine jF ?_|refine jG ?_|refine jH ?_|refine jI ?_|refine jJ ?_|refine jK ?_|refine jL ?_|refine jM (by assumption) ?_|refine jN (by assumption) rfl ?_|refine jO (by assumption) ?_|refine jP (by assumption) rfl ?_|refine jQ ?_|refine jR ?_|refine jS ?_|refine jT ?_|refine jU (by assumption) rfl ?_))
  exact ⟨rfl, Keep.refl _ _⟩
theorem M.lenMap_i {k : Kt} {w : World} {t ty : TypeId} {cs : Array Bool} {r : Nat} {kv : List (Int × Value)} (ht : Try.prog.underlying t = some (.map (Try.prog.mapKeyOf t) (Try.prog.mapElemOf t))) (hm : MapO w r kv) (h : k (vi kv.length) w) :
    M.next Try.prog (builtin .len #[t] ty cs #[.map (some r)]) k w := by
  obtain ⟨es, c, h1, h2, h3⟩ := hm
  have hl : es.size = kv.length := by
    have := congrArg List.length h3
    simpa using this
  refine M.next_i (v := vi kv.length) (w' := w) ?_ h
  have := run_len_map (P := Try.prog) w t ty r es c ht h1
  rw [hl] at this
  exact this
section
variable {w w1 : World} {p q r : Nat} {lab ow bk : Nat → Nat} {cv : Nat → Value} {wv : Value} {t : Tr} {s : Wt} {vb vw1 vd : Value} {bvs : List Value} {O : Nat → Prop}
theorem wlen_ret (h : TWR w p q O bk cv wv t s) : Ret Try.prog 12 #[ptr q] w (fun r w' => r = vi s.cls.length ∧ Keep w w' No) := by
  obtain ⟨lab, ow, r, vb, vd, bvs, hT⟩ := h
  have hB := hT.wb.st
  refine ok12 _ _ _ ?_
  unfold sh12
  (repeat (first|refine ja ?_|refine jb ?_|refine jc ?_|refine jd ?_|refine je ?_|refine jf ?_|refine jg ?_|refine jh ?_|refine ji ?_|refine jj ?_|refine jk ?_|refine jl ?_|refine jm ?_|refine jn ?_|refine jo ?_|refine jp ?_|refine jq ?_|refine jr ?_|refine js ?_|refine jt ?_|refine ju ?_|refine jv ?_|refine jw ?_|refine jx ?_|refine jy ?_|refine jz ?_|refine jA ?_|refine jB ?_|refine jC ?_|refine jD ?_|refine jE ?_|refine jF ?_|refine jG ?_|refine jH ?_|refine jI ?_|refine jJ ?_|refine jK ?_|refine jL ?_|refine jM (by assumption) ?_|refine jN (by assumption) rfl ?_|refine jO (by assumption) ?_|refine jP (by assumption) rfl ?_|refine jQ ?_|refine jR ?_|refine jS ?_|refine jT ?_|refine jU (by assumption) rfl ?_))
  refine M.lenMap_i (by kernel_rfl) hT.wb.mp ?_
  exact ⟨by simp [kvW], Keep.refl _ _⟩
theorem rem_ret (h : TWR w p q O bk cv wv t s) (i : Int) : Ret Try.prog 10 #[ptr q, vi i] w (fun r w' => r = .bool (s.get i).isSome ∧ TWR w' p q O bk cv wv t (s.rem i) ∧ Keep w w' O) := by
  obtain ⟨lab, ow, r, vb, vd, bvs, hT⟩ := id h
  have hB := hT.wb.st
  refine ok10 _ _ _ _ ?_
  unfold sh10
  (repeat (first|refine ja ?_|refine jb ?_|refine jc ?_|refine jd ?_|refine je ?_|refine jf ?_|refine jg ?_|refine jh ?_|refine ji ?_|refine jj ?_|refine jk ?_|refine jl ?_|refine jm ?_|refine jn ?_|refine jo ?_|refine jp ?_|refine jq ?_|refine jr ?_|refine js ?_|refine jt ?_|refine ju ?_|refine jv ?_|refine jw ?_|refine jx ?_|refine jy ?_|refine jz ?_|refine jA ?_|refine jB ?_|refine jC ?_|refine jD ?_|refine jE ?_|refine jF ?_|refine jG ?_|refine jH ?_|refine jI ?_|refine jJ ?_|refine jK ?_|refine jL ?_|refine jM (by assumption) ?_|refine jN (by assumption) rfl ?_|refine jO (by assumption) ?_|refine jP (by assumption) rfl ?_|refine jQ ?_|refine jR ?_|refine jS ?_|refine jT ?_|refine jU (by assumption) rfl ?_))
  refine hT.wb.all_i _ ?_
  cases hg : s.get i with
  | none =>
    (repeat (first|refine ja ?_|refine jb ?_|refine jc ?_|refine jd ?_|refine je ?_|refine jf ?_|refine jg ?_|refine jh ?_|refine ji ?_|refine jj ?_|refine jk ?_|refine jl ?_|refine jm ?_|refine jn ?_|refine jo ?_|refine jp ?_|refine jq ?_|refine jr ?_|refine js ?_|refine jt ?_|refine ju ?_|refine jv ?_|refine jw ?_|refine jx ?_|refine jy ?_|refine jz ?_|refine jA ?_|refine jB ?_|refine jC ?_|refine jD ?_|refine jE ?_|refine jF ?_|refine jG ?_|refine jH ?_|refine jI ?_|refine jJ ?_|refine jK ?_|refine jL ?_|refine jM (by assumption) ?_|refine jN (by assumption) rfl ?_|refine jO (by assumption) ?_|refine jP (by assumption) rfl ?_|refine jQ ?_|refine jR ?_|refine jS ?_|refine jT ?_|refine jU (by assumption) rfl ?_))
    refine ⟨rfl, ?_, Keep.refl _ _⟩
    have e : s.rem i = s := by
      unfold Wt.rem
      have : s.cls.filter (fun c => decide ((c.n : Int) ≠ i)) = s.cls := by
        rw [List.filter_eq_self]
        intro c hc
        unfold Wt.get at hg
        rw [List.find?_eq_none] at hg
        simpa using hg c hc
      rw [this]
    rw [e]; exact h
  | some c =>
    (repeat (first|refine ja ?_|refine jb ?_|refine jc ?_|refine jd ?_|refine je ?_|refine jf ?_|refine jg ?_|refine jh ?_|refine ji ?_|refine jj ?_|refine jk ?_|refine jl ?_|refine jm ?_|refine jn ?_|refine jo ?_|refine jp ?_|refine jq ?_|refine jr ?_|refine js ?_|refine jt ?_|refine ju ?_|refine jv ?_|refine jw ?_|refine jx ?_|refine jy ?_|refine jz ?_|refine jA ?_|refine jB ?_|refine jC ?_|refine jD ?_|refine jE ?_|refine jF ?_|refine jG ?_|refine jH ?_|refine jI ?_|refine jJ ?_|refine jK ?_|refine jL ?_|refine jM (by assumption) ?_|refine jN (by assumption) rfl ?_|refine jO (by assumption) ?_|refine jP (by assumption) rfl ?_|refine jQ ?_|refine jR ?_|refine jS ?_|refine jT ?_|refine jU (by assumption) rfl ?_))
    refine M.delete_i (kt := 3) (et := 64) (by kernel_rfl) (by kernel_rfl) hT.wb.mp (fun w1 m1 k1 s1 => ?_)
    have hr := hT.wb.orr
    have hq := hT.wb.oq
    have hrO : O r := (hT.iff r).2 (.inr (by omega))
    have kO : ∀ b, ow b ≠ 2 → ¬ b = r := fun b hb e => by subst e; exact hb hr
    have kv : (kvW bk s.cls).filter (fun p => decide (p.1 ≠ i)) = kvW bk (s.rem i).cls := by
      unfold kvW Wt.rem
      rw [List.filter_map]
      rfl
    rw [kv] at m1
    refine ⟨rfl, ⟨lab, ow, r, vb, vd, bvs, hT.tr.keep k1 (fun b _ e e2 => by have e2 : b = r := e2; subst e2; have := hT.ap _ e; omega), ⟨hT.wb.st.keep k1 (kO q (by omega)), m1, hT.wb.by0.keep k1 (fun b _ e => kO b (by omega)), hT.wb.byl, fun j l hl => ?_, hT.wb.wh.keep k1 (fun b _ e => kO b (by omega)), hT.wb.dn.keep k1 (fun b _ e => kO b (by omega)), fun d hd => ?_, hT.wb.oq, hT.wb.orr, fun b hb => by rw [s1]; exact hT.wb.lt b hb⟩, hT.ap, hT.iff⟩, k1.mono (fun b _ e => by have e : b = r := e; rw [e]; exact hrO)⟩
    · obtain ⟨v, g1, g2⟩ := hT.wb.byI j l hl
      exact ⟨v, g1, g2.keep k1 (fun b _ e => kO b (by omega))⟩
    · obtain ⟨g0, g1, g2⟩ := hT.wb.one d (List.mem_filter.1 (show d ∈ s.cls.filter _ from hd)).1
      exact ⟨g0, g1.keep k1 (kO _ (by omega)), g2.keep k1 (fun b _ e => kO b (by omega))⟩
theorem clone_ret {D : Nat → Prop} {v : Value} {xs : List Int} (h : LV vi w D v xs) (hf : xs.length ≤ 1000000) : Ret Try.prog 31 #[v] w (fun r w' => GI w' (w.heap.size ≤ ·) r xs ∧ Keep w w' No) := by
  obtain ⟨A, c, rfl, hr, hc⟩ := h
  refine ok31 _ _ _ ?_
  unfold sh31
  cases A with
  | none =>
    have hx : xs = [] := by
      rcases hr with h | ⟨_, _, _, _, _, h, _⟩
      · simpa using h
      · cases h
    subst hx
    (repeat (first|refine ja ?_|refine jb ?_|refine jc ?_|refine jd ?_|refine je ?_|refine jf ?_|refine jg ?_|refine jh ?_|refine ji ?_|refine jj ?_|refine jk ?_|refine jl ?_|refine jm ?_|refine jn ?_|refine jo ?_|refine jp ?_|refine jq ?_|refine jr ?_|refine js ?_|refine jt ?_|refine ju ?_|refine jv ?_|refine jw ?_|refine jx ?_|refine jy ?_|refine jz ?_|refine jA ?_|refine jB ?_|refine jC ?_|refine jD ?_|refine jE ?_|refine jF ?_|refine jG ?_|refine jH ?_|refine jI ?_|refine jJ ?_|refine jK ?_|refine jL ?_|refine jM (by assumption) ?_|refine jN (by assumption) rfl ?_|refine jO (by assumption) ?_|refine jP (by assumption) rfl ?_|refine jQ ?_|refine jR ?_|refine jS ?_|refine jT ?_|refine jU (by assumption) rfl ?_))
    exact ⟨GI.nil _ _, Keep.refl _ _⟩
  | some ad =>
    (repeat (first|refine ja ?_|refine jb ?_|refine jc ?_|refine jd ?_|refine je ?_|refine jf ?_|refine jg ?_|refine jh ?_|refine ji ?_|refine jj ?_|refine jk ?_|refine jl ?_|refine jm ?_|refine jn ?_|refine jo ?_|refine jp ?_|refine jq ?_|refine jr ?_|refine js ?_|refine jt ?_|refine ju ?_|refine jv ?_|refine jw ?_|refine jx ?_|refine jy ?_|refine jz ?_|refine jA ?_|refine jB ?_|refine jC ?_|refine jD ?_|refine jE ?_|refine jF ?_|refine jG ?_|refine jH ?_|refine jI ?_|refine jJ ?_|refine jK ?_|refine jL ?_|refine jM (by assumption) ?_|refine jN (by assumption) rfl ?_|refine jO (by assumption) ?_|refine jP (by assumption) rfl ?_|refine jQ ?_|refine jR ?_|refine jS ?_|refine jT ?_|refine jU (by assumption) rfl ?_))
    refine M.buildSlice_i [] (by kernel_rfl) (fun w1 b1 k1 s1 => ?_)
    have g1 : GI w1 (w.heap.size ≤ ·) (.slice (some ⟨w.heap.size, 0, none⟩) 0 0) [] := GC.of_blk b1 (Nat.le_refl _) rfl
    refine M.appendI_i rfl g1 (hr.keep k1 (fun _ _ _ h => h)) rfl (by simp; omega) (fun v2 w2 g2 k2 => ?_)
    have q1 := k1.size
    exact ⟨g2.mono (fun b hb h => by
      rcases h with h | h
      · exact h
      · show w.heap.size ≤ b; omega), k1.trans k2 (fun b hb h => by have h : w.heap.size ≤ b := h; omega)⟩
theorem cla_ret (h : TWR w p q O bk cv wv t s) (hcl : ∀ c ∈ s.cls, c.lits.length ≤ 1000000) (i : Int) : Ret Try.prog 11 #[ptr q, vi i] w (fun r w' => GI w' (w.heap.size ≤ ·) r (match s.get i with | some c => c.lits | none => []) ∧ Keep w w' No) := by
  obtain ⟨lab, ow, r, vb, vd, bvs, hT⟩ := id h
  have hB := hT.wb.st
  refine ok11 _ _ _ _ ?_
  unfold sh11
  (repeat (first|refine ja ?_|refine jb ?_|refine jc ?_|refine jd ?_|refine je ?_|refine jf ?_|refine jg ?_|refine jh ?_|refine ji ?_|refine jj ?_|refine jk ?_|refine jl ?_|refine jm ?_|refine jn ?_|refine jo ?_|refine jp ?_|refine jq ?_|refine jr ?_|refine js ?_|refine jt ?_|refine ju ?_|refine jv ?_|refine jw ?_|refine jx ?_|refine jy ?_|refine jz ?_|refine jA ?_|refine jB ?_|refine jC ?_|refine jD ?_|refine jE ?_|refine jF ?_|refine jG ?_|refine jH ?_|refine jI ?_|refine jJ ?_|refine jK ?_|refine jL ?_|refine jM (by assumption) ?_|refine jN (by assumption) rfl ?_|refine jO (by assumption) ?_|refine jP (by assumption) rfl ?_|refine jQ ?_|refine jR ?_|refine jS ?_|refine jT ?_|refine jU (by assumption) rfl ?_))
  refine hT.wb.all_i _ ?_
  cases hg : s.get i with
  | none =>
    (repeat (first|refine ja ?_|refine jb ?_|refine jc ?_|refine jd ?_|refine je ?_|refine jf ?_|refine jg ?_|refine jh ?_|refine ji ?_|refine jj ?_|refine jk ?_|refine jl ?_|refine jm ?_|refine jn ?_|refine jo ?_|refine jp ?_|refine jq ?_|refine jr ?_|refine js ?_|refine jt ?_|refine ju ?_|refine jv ?_|refine jw ?_|refine jx ?_|refine jy ?_|refine jz ?_|refine jA ?_|refine jB ?_|refine jC ?_|refine jD ?_|refine jE ?_|refine jF ?_|refine jG ?_|refine jH ?_|refine jI ?_|refine jJ ?_|refine jK ?_|refine jL ?_|refine jM (by assumption) ?_|refine jN (by assumption) rfl ?_|refine jO (by assumption) ?_|refine jP (by assumption) rfl ?_|refine jQ ?_|refine jR ?_|refine jS ?_|refine jT ?_|refine jU (by assumption) rfl ?_))
    exact ⟨GC.nil _ _ _, Keep.refl _ _⟩
  | some c =>
    obtain ⟨hc, hcn⟩ := get_some hg
    obtain ⟨g0, g1, g2⟩ := hT.wb.one c hc
    (repeat (first|refine ja ?_|refine jb ?_|refine jc ?_|refine jd ?_|refine je ?_|refine jf ?_|refine jg ?_|refine jh ?_|refine ji ?_|refine jj ?_|refine jk ?_|refine jl ?_|refine jm ?_|refine jn ?_|refine jo ?_|refine jp ?_|refine jq ?_|refine jr ?_|refine js ?_|refine jt ?_|refine ju ?_|refine jv ?_|refine jw ?_|refine jx ?_|refine jy ?_|refine jz ?_|refine jA ?_|refine jB ?_|refine jC ?_|refine jD ?_|refine jE ?_|refine jF ?_|refine jG ?_|refine jH ?_|refine jI ?_|refine jJ ?_|refine jK ?_|refine jL ?_|refine jM (by assumption) ?_|refine jN (by assumption) rfl ?_|refine jO (by assumption) ?_|refine jP (by assumption) rfl ?_|refine jQ ?_|refine jR ?_|refine jS ?_|refine jT ?_|refine jU (by assumption) rfl ?_))
    refine hT.wb.all_i _ ?_
    rw [hg]
    (repeat (first|refine ja ?_|refine jb ?_|refine jc ?_|refine jd ?_|refine je ?_|refine jf ?_|refine jg ?_|refine jh ?_|refine ji ?_|refine jj ?_|refine jk ?_|refine jl ?_|refine jm ?_|refine jn ?_|refine jo ?_|refine jp ?_|refine jq ?_|refine jr ?_|refine js ?_|refine jt ?_|refine ju ?_|refine jv ?_|refine jw ?_|refine jx ?_|refine jy ?_|refine jz ?_|refine jA ?_|refine jB ?_|refine jC ?_|refine jD ?_|refine jE ?_|refine jF ?_|refine jG ?_|refine jH ?_|refine jI ?_|refine jJ ?_|refine jK ?_|refine jL ?_|refine jM (by assumption) ?_|refine jN (by assumption) rfl ?_|refine jO (by assumption) ?_|refine jP (by assumption) rfl ?_|refine jQ ?_|refine jR ?_|refine jS ?_|refine jT ?_|refine jU (by assumption) rfl ?_))
    refine M.call_i (clone_ret (GI.lv g2) (hcl c hc)) ?_; rintro v1 w1 ⟨g3, k3⟩
    exact ⟨g3, k3⟩
end
end Go.Proofs.Ytnkechekdncnlaa
