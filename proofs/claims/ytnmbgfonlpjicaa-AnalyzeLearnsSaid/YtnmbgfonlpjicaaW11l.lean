import Derived.Test.YtnmbgfonlpjicaaW11k
namespace Go.Proofs.Ytnmbgfonlpjicaa
open Go.Mw Go.MapKept
set_option linter.unusedVariables false
set_option linter.unusedSimpArgs false
set_option maxRecDepth 100000
attribute [local irreducible] M.val M.unit M.next M.pick M.new M.nilCheck M.load1 M.loadA M.store M.fieldAddr M.indexSl M.indexArr M.slice M.makeSlice M.buildSlice M.len M.lenS M.cap M.append M.extract M.conv M.not M.neg M.bin M.shift M.eqB M.eqNil M.call M.callv M.gd M.share M.cond M.loop M.draw pureW readW Ret
/-! (*breakwater/watch.Watch).Add: function 11 -/
def sh11 (x0 x1 x2 : Value) (R : Kt) (w : World) : Prop :=
  M.eqNil 0 false x0 (fun t13 w =>
  M.gd t13 false (fun k w => k x1 w) (fun t15 w =>
  M.gd t13 false (fun k w => M.eqNil 0 false t15 k w) (fun t16 w =>
  M.pick t13 (Value.bool true) t16 (fun t17 w =>
  M.cond t17
  (R (.tuple #[(Value.int IntKind.i64 0), (Value.int IntKind.i64 1)]) w)
  (M.len x2 (fun t19 w =>
  M.loop [(Value.slice none 0 0), (Value.int IntKind.i64 0)] (fun s1 K1 w => ∀ _ : List Value,
  M.bin .lss (s1.getD 1 undef) t19 (fun t21 w =>
  M.cond t21
  (M.share (fun K2 w =>
  M.indexSl 1 x2 (s1.getD 1 undef) (fun t22 w =>
  M.load1 t22 (fun t23 w =>
  M.draw (fun w =>
  M.bin .lss t23 (Value.int IntKind.i64 0) (fun t25 w =>
  M.gd t25 false (fun k w => k t23 w) (fun t27 w =>
  M.gd t25 false (fun k w => k x0 w) (fun t29 w =>
  M.gd t25 false (fun k w => M.nilCheck t29 k w) (fun t30 w =>
  M.gd t25 false (fun k w => M.fieldAddr 0 t30 k w) (fun t31 w =>
  M.gd t25 false (fun k w => M.load1 t31 k w) (fun t32 w =>
  M.gd t25 false (fun k w => M.call Try.prog 22 #[t27] k w) (fun t28 w =>
  ((M.gd t25 false (fun k w => M.load1 t31 k w) (fun v' _ => v' = t32) w) ∧ M.gd t25 false (fun k w => M.bin .geq t28 t32 k w) (fun t33 w =>
  M.pick t25 (Value.bool true) t33 (fun t34 w =>
  M.cond t34
  (R (.tuple #[(Value.int IntKind.i64 0), (Value.int IntKind.i64 10)]) w)
  (M.call Try.prog 29 #[(s1.getD 0 undef), t23] (fun t37 w =>
  M.not t37 (fun t38 w =>
  M.cond t38
  (M.buildSlice 3 1 #[.int .i64 0] 1 [(0, t23)] (fun t41 w =>
  M.append 3 1 8 #[.int .i64 0] (s1.getD 0 undef) t41 (fun t42 w =>
  K2 [t42] w) w) w)
  (K2 [(s1.getD 0 undef)] w)) w) w)) w) w)) w) w) w) w) w) w) w) w) w) w) (fun s2 w => ∀ _ : List Value,
  M.bin .add (s1.getD 1 undef) (Value.int IntKind.i64 1) (fun t43 w =>
  K1 [(s2.getD 0 undef), t43] w) w) w)
  (M.nilCheck x0 (fun t45 w =>
  M.fieldAddr 1 t45 (fun t46 w =>
  M.load1 t46 (fun t47 w =>
  M.nilCheck x0 (fun t49 w =>
  M.fieldAddr 1 t49 (fun t50 w =>
  M.load1 t50 (fun t51 w =>
  M.bin .add t51 (Value.int IntKind.i64 1) (fun t52 w =>
  M.nilCheck x0 (fun t53 w =>
  M.fieldAddr 1 t53 (fun t54 w =>
  M.store 1 t54 t52 (fun _ w =>
  M.nilCheck x0 (fun t56 w =>
  M.fieldAddr 2 t56 (fun t57 w =>
  M.load1 t57 (fun t58 w =>
  pureW Try.prog (Instr.build 67 #[(0, (s1.getD 0 undef)), (1, (Value.bool true))]) (fun t61 w =>
  M.new 67 (Value.cells t61) (fun t62 w =>
  M.unit Try.prog (Instr.mapUpdate 61 t58 t47 t62) (fun _ w =>
  M.nilCheck x0 (fun t65 w =>
  M.fieldAddr 4 t65 (fun t66 w =>
  M.load1 t66 (fun t67 w =>
  M.buildSlice 3 1 #[.int .i64 0] 1 [(0, t47)] (fun t69 w =>
  M.append 3 1 8 #[.int .i64 0] t67 t69 (fun t70 w =>
  M.nilCheck x0 (fun t71 w =>
  M.fieldAddr 4 t71 (fun t72 w =>
  M.store 1 t72 t70 (fun _ w =>
  R (.tuple #[t47, (Value.int IntKind.i64 0)]) w) w) w) w) w) w) w) w) w) w) w) w) w) w) w) w) w) w) w) w) w) w) w) w) w)) w) w) w)) w) w) w) w
theorem ok11 (x0 x1 x2 : Value) (R : Kt) (w : World) (h : sh11 x0 x1 x2 R w) : Ret Try.prog 11 #[x0, x1, x2] w R :=
  ret_mk <| calls_of_comp mixed (c := Try.f11.body.getD .skip) (args := [x0, x1, x2]) (rs := [(ResultVar.tmp 6), (ResultVar.tmp 7)]) (Ann.seq Ann.text (Ann.seq (Ann.seq Ann.text (Ann.cond (Ann.seq Ann.text Ann.leaf) Ann.leaf)) (Ann.seq Ann.text (Ann.seq (Ann.seq Ann.text (Ann.block (Ann.loop [8, 20] [6, 7, 10, 21, 22, 23, 24, 25, 26, 27, 28, 29, 30, 31, 32, 33, 34, 35, 36, 37, 38, 39, 40, 41, 42, 43] (Ann.seq Ann.text (Ann.seq (Ann.cond Ann.leaf Ann.leaf) (Ann.seq (Ann.jblock [8] [6, 7, 10, 22, 23, 24, 25, 26, 27, 28, 29, 30, 31, 32, 33, 34, 35, 36, 37, 38, 39, 40, 41, 42] (Ann.seq Ann.text (Ann.seq (Ann.seq (Ann.draw (Sch.take 0 (Sch.take 1 (Sch.take 2 (Sch.take 3 (Sch.take 5 (Sch.take 6 (Sch.take 7 (Sch.take 8 (Sch.one 4 (Sch.take 9 (Sch.take 10 Sch.done)))))))))))) (Ann.cond (Ann.seq Ann.text Ann.leaf) Ann.leaf)) (Ann.seq Ann.text (Ann.cond Ann.text Ann.leaf))))) Ann.text)))))) (Ann.seq Ann.text (Ann.seq Ann.text (Ann.seq Ann.text (Ann.seq Ann.text (Ann.seq Ann.text Ann.leaf)))))))))
    Try.func11 (by kernel_rfl) (by kernel_rfl)
    (Eq.mp (by kernel_rfl) h)

/-- A list's literals, each once. -/
def ddp (l : List Int) : List Int := l.foldl (fun acc x => if x ∈ acc then acc else acc ++ [x]) []
theorem ddp_snoc (l : List Int) (x : Int) : ddp (l ++ [x]) = if x ∈ ddp l then ddp l else ddp l ++ [x] := by
  unfold ddp; rw [List.foldl_append]; rfl
theorem ddp_spec : ∀ (n : Nat) (l : List Int), l.length = n → (ddp l).Nodup ∧ (∀ x, x ∈ ddp l ↔ x ∈ l) ∧ (ddp l).length ≤ l.length
  | 0, l, h => by
    have : l = [] := List.length_eq_zero_iff.1 h
    subst this
    simp [ddp]
  | n + 1, l, h => by
    rcases List.eq_nil_or_concat l with e | ⟨l0, x, e⟩
    · subst e; simp at h
    · rw [List.concat_eq_append] at e
      subst e
      rw [List.length_append, List.length_singleton] at h
      obtain ⟨h1, h2, h3⟩ := ddp_spec n l0 (by omega)
      rw [ddp_snoc]
      by_cases hx : x ∈ ddp l0
      · rw [if_pos hx]
        refine ⟨h1, fun y => ?_, by rw [List.length_append, List.length_singleton]; omega⟩
        rw [h2]
        simp only [List.mem_append, List.mem_singleton]
        constructor
        · exact fun h => .inl h
        · rintro (h | h)
          · exact h
          · rw [h]; exact (h2 x).1 hx
      · rw [if_neg hx]
        refine ⟨?_, fun y => ?_, by simp only [List.length_append, List.length_singleton]; omega⟩
        · rw [List.nodup_append]
          exact ⟨h1, by simp, fun a ha b hb => by
            simp at hb; subst hb
            intro e; subst e; exact hx ha⟩
        · simp only [List.mem_append, h2]
def Wt.add (s : Wt) (l : List Int) : Wt := { s with ever := s.ever + 1, cls := s.cls ++ [⟨s.ever, ddp l, true⟩], whole := s.whole ++ [(s.ever : Int)] }
theorem add_nilw (t v : Value) (w : World) : Ret Try.prog 11 #[nilp, t, v] w (fun r w' => r = .tuple #[vi 0, vi 1] ∧ Keep w w' No) := by
  refine ok11 _ _ _ _ _ ?_
  unfold sh11
  (repeat (first|refine ja ?_|refine jb ?_|refine jc ?_|refine jd ?_|refine je ?_|refine jf ?_|refine jg ?_|refine jh ?_|refine ji ?_|refine jj ?_|refine jk ?_|refine jl ?_|refine jm ?_|refine jn ?_|refine jo ?_|refine jp ?_|refine jq ?_|refine jr ?_|refine js ?_|refine jt ?_|refine ju ?_|refine jv ?_|refine jw ?_|refine jx ?_|refine jy ?_|refine jz ?_|refine jA ?_|refine jB ?_|refine jC ?_|refine jD ?_|refine jE ?_|refine jF ?_|refine jG ?_|refine jH ?_|refine jI ?_|refine jJ ?_|refine jK ?_|refine jL ?_|refine jM (by assumption) ?_|refine jN (by assumption) rfl ?_|refine jO (by assumption) ?_|refine jP (by assumption) rfl ?_|refine jQ ?_|refine jR ?_|refine jS ?_|refine jT ?_|refine jU (by assumption) rfl ?_))
  exact ⟨rfl, Keep.refl _ _⟩
theorem add_nilt (q : Nat) (v : Value) (w : World) : Ret Try.prog 11 #[ptr q, nilp, v] w (fun r w' => r = .tuple #[vi 0, vi 1] ∧ Keep w w' No) := by
  refine ok11 _ _ _ _ _ ?_
  unfold sh11
  (repeat (first|refine ja ?_|refine jb ?_|refine jc ?_|refine jd ?_|refine je ?_|refine jf ?_|refine jg ?_|refine jh ?_|refine ji ?_|refine jj ?_|refine jk ?_|refine jl ?_|refine jm ?_|refine jn ?_|refine jo ?_|refine jp ?_|refine jq ?_|refine jr ?_|refine js ?_|refine jt ?_|refine ju ?_|refine jv ?_|refine jw ?_|refine jx ?_|refine jy ?_|refine jz ?_|refine jA ?_|refine jB ?_|refine jC ?_|refine jD ?_|refine jE ?_|refine jF ?_|refine jG ?_|refine jH ?_|refine jI ?_|refine jJ ?_|refine jK ?_|refine jL ?_|refine jM (by assumption) ?_|refine jN (by assumption) rfl ?_|refine jO (by assumption) ?_|refine jP (by assumption) rfl ?_|refine jQ ?_|refine jR ?_|refine jS ?_|refine jT ?_|refine jU (by assumption) rfl ?_))
  exact ⟨rfl, Keep.refl _ _⟩
section
variable {w w1 : World} {p q r : Nat} {lab ow bk : Nat → Nat} {cv : Nat → Value} {wv : Value} {t : Tr} {s : Wt} {vb vw1 vd : Value} {bvs : List Value} {O : Nat → Prop}
open Classical in
noncomputable def owA (ow : Nat → Nat) (e nb : Nat) (lv v' : Value) : Nat → Nat := fun b => if b = nb then 7 + 3 * e else if blkOf lv b then 8 + 3 * e else if blkOf v' b then 4 else if ow b = 4 then 0 else ow b
theorem WB.add (h : WB w q ow bk cv s r vb vw1 vd bvs) {nb : Nat} {lv v' : Value} {lits : List Int} {L L' : Nat → Prop} (hnum : ∀ c ∈ s.cls, c.n < s.ever) (k : Keep w w1 (fun b => b = q ∨ b = r ∨ ow b = 4)) (hB : Blk w1 q [vi s.vars, vi (s.ever + 1), .map (some r), vb, v', vd])
    (hm : MapO w1 r (kvW bk s.cls ++ [((s.ever : Int), ptr nb)])) (ho : Blk w1 nb [lv, .bool true]) (gl : GI w1 L lv lits) (gw : GI w1 L' v' (s.whole ++ [(s.ever : Int)])) (hnb : ow nb = 0) (hL : ∀ b, L b → ow b = 0 ∧ b ≠ nb) (hL' : ∀ b, L' b → (ow b = 4 ∨ ow b = 0) ∧ b ≠ nb ∧ ¬ blkOf lv b) :
    WB w1 q (owA ow s.ever nb lv v') (fun n => if n = s.ever then nb else bk n) (fun n => if n = s.ever then lv else cv n) { s with ever := s.ever + 1, cls := s.cls ++ [⟨s.ever, lits, true⟩], whole := s.whole ++ [(s.ever : Int)] } r vb v' vd bvs := by
  have fl : ∀ b, blkOf lv b → ow b = 0 ∧ b ≠ nb := fun b hb => hL b (GC.blkOf gl hb).1
  have fw : ∀ b, blkOf v' b → (ow b = 4 ∨ ow b = 0) ∧ b ≠ nb ∧ ¬ blkOf lv b := fun b hb => hL' b (GC.blkOf gw hb).1
  have oth : ∀ b i, ow b = i → i ≠ 0 → i ≠ 4 → owA ow s.ever nb lv v' b = i := fun b i hi h0 h4 => by
    unfold owA
    rw [if_neg (fun e => by subst e; omega), if_neg (fun e => by have := (fl b e).1; omega), if_neg (fun e => by have := (fw b e).1; omega), if_neg (by omega), hi]
  have hq := h.oq
  have hr := h.orr
  have kk : ∀ b i, ow b = i → i ≠ 0 → i ≠ 1 → i ≠ 2 → i ≠ 4 → ¬ (b = q ∨ b = r ∨ ow b = 4) := fun b i hi h0 h1 h2 h4 e => by
    rcases e with e | e | e
    · subst e; omega
    · subst e; omega
    · omega
  have hkv : ∀ cls : List Wc, (∀ c ∈ cls, c.n < s.ever) → kvW (fun n => if n = s.ever then nb else bk n) cls = kvW bk cls := fun cls hc => by
    unfold kvW
    apply List.map_congr_left
    intro c h1
    have := hc c h1
    simp only [if_neg (show ¬ c.n = s.ever by omega)]
  refine ⟨hB, ?_, (h.by0.keep k (fun b _ e => kk b 3 e (by omega) (by omega) (by omega) (by omega))).mono (fun b _ e => oth b 3 e (by omega) (by omega)), h.byl, fun i l hi => ?_, (GC.own gw).mono (fun b _ hb => ?_), (h.dn.keep k (fun b _ e => kk b 5 e (by omega) (by omega) (by omega) (by omega))).mono (fun b _ e => oth b 5 e (by omega) (by omega)), fun c hc => ?_, oth q 1 hq (by omega) (by omega), oth r 2 hr (by omega) (by omega), fun b hb => ?_⟩
  · show MapO w1 r (kvW _ (s.cls ++ [⟨s.ever, lits, true⟩]))
    have : kvW (fun n => if n = s.ever then nb else bk n) (s.cls ++ [⟨s.ever, lits, true⟩]) = kvW bk s.cls ++ [((s.ever : Int), ptr nb)] := by
      have e1 := hkv s.cls hnum
      unfold kvW at e1 ⊢
      rw [List.map_append, e1]
      simp
    rw [this]; exact hm
  · obtain ⟨v, h1, h2⟩ := h.byI i l hi
    exact ⟨v, h1, (h2.keep k (fun b _ e => kk b (6 + 3 * i) e (by omega) (by omega) (by omega) (by omega))).mono (fun b _ e => oth b _ e (by omega) (by omega))⟩
  · have := fw b hb
    unfold owA
    rw [if_neg this.2.1, if_neg this.2.2, if_pos hb]
  · rcases List.mem_append.1 hc with hc | hc
    · have hn := hnum c hc
      obtain ⟨h0, h1, h2⟩ := h.one c hc
      have e : ¬ c.n = s.ever := by omega
      simp only [e, if_false]
      exact ⟨oth _ _ h0 (by omega) (by omega), h1.keep k (kk _ _ h0 (by omega) (by omega) (by omega) (by omega)), (h2.keep k (fun b _ e => kk b _ e (by omega) (by omega) (by omega) (by omega))).mono (fun b _ e => oth b _ e (by omega) (by omega))⟩
    · simp only [List.mem_singleton] at hc
      subst hc
      simp only [if_true]
      exact ⟨by unfold owA; rw [if_pos rfl], ho, (GC.own gl).mono (fun b _ hb => by
        unfold owA
        rw [if_neg (fl b hb).2, if_pos hb])⟩
  · unfold owA at hb
    split at hb
    · rename_i e; subst e; exact ho.lt
    · split at hb
      · rename_i e; exact (GC.blkOf gl e).2
      · split at hb
        · rename_i e; exact (GC.blkOf gw e).2
        · split at hb
          · exact absurd rfl hb
          · exact Nat.lt_of_lt_of_le (h.lt b hb) k.size
theorem upd_new {kv : List (Int × Value)} {x : Int} {v : Value} (h : ∀ p ∈ kv, p.1 ≠ x) : upd kv x v = kv ++ [(x, v)] := by
  unfold upd
  rw [if_neg]
  intro e
  obtain ⟨p, hp, e⟩ := List.any_eq_true.1 e
  exact h p hp (by simpa using e)
set_option maxHeartbeats 2000000 in
theorem add_ret {D : Nat → Prop} {v : Value} {l : List Int} (h : TWR w p q O bk cv wv t s) (hl : LV vi w D v l) (hlf : l.length ≤ 1000000) (hI : ∀ x ∈ l, I64 x) (hnum : ∀ c ∈ s.cls, c.n < s.ever) (he : s.ever ≤ 1000000000) (hz : s.sz ≤ 1000000000) (hv : s.vars ≤ 1048576) :
    Ret Try.prog 11 #[ptr q, ptr p, v] w (fun r w' => if ∀ x ∈ l, 0 ≤ x ∧ x < 2 * s.vars then r = .tuple #[vi s.ever, vi 0] ∧ ∃ O' bk' cv' wv', TWR w' p q O' bk' cv' wv' t (s.add l) ∧ OMod w w' O O' else r = .tuple #[vi 0, vi 10] ∧ Keep w w' No) := by
  obtain ⟨lab, ow, r, vb, vd, bvs, hT⟩ := id h
  obtain ⟨A, cap, rfl, hrow, _⟩ := hl
  refine ok11 _ _ _ _ _ ?_
  unfold sh11
  (repeat (first|refine ja ?_|refine jb ?_|refine jc ?_|refine jd ?_|refine je ?_|refine jf ?_|refine jg ?_|refine jh ?_|refine ji ?_|refine jj ?_|refine jk ?_|refine jl ?_|refine jm ?_|refine jn ?_|refine jo ?_|refine jp ?_|refine jq ?_|refine jr ?_|refine js ?_|refine jt ?_|refine ju ?_|refine jv ?_|refine jw ?_|refine jx ?_|refine jy ?_|refine jz ?_|refine jA ?_|refine jB ?_|refine jC ?_|refine jD ?_|refine jE ?_|refine jF ?_|refine jG ?_|refine jH ?_|refine jI ?_|refine jJ ?_|refine jK ?_|refine jL ?_|refine jM (by assumption) ?_|refine jN (by assumption) rfl ?_|refine jO (by assumption) ?_|refine jP (by assumption) rfl ?_|refine jQ ?_|refine jR ?_|refine jS ?_|refine jT ?_|refine jU (by assumption) rfl ?_))
  refine M.loop_i (σ := Nat) (fun i vals w' => ∃ lv, vals = [lv, vi i] ∧ i ≤ l.length ∧ (∀ x ∈ l.take i, 0 ≤ x ∧ x < 2 * s.vars) ∧ GI w' (w.heap.size ≤ ·) lv (ddp (l.take i)) ∧ Keep w w' No) (fun i => l.length - i) 0
    ⟨_, rfl, by omega, fun x hx => by simp at hx, GC.nil _ _ _, Keep.refl _ _⟩ ?_
  rintro i vals w1 K ⟨lv, rfl, hi, hok, g1, k1⟩ hK _
  simp only [List.getD_cons_zero, List.getD_cons_succ]
  have hT1 := hT.keep k1
  have hB1 := hT1.wb.st
  have hdl : (ddp (l.take i)).length ≤ 1000000 := by
    have := (ddp_spec _ (l.take i) rfl).2.2
    have := List.length_take_le i l
    omega
  by_cases hlt : i < l.length
  · obtain ⟨x, hx⟩ : ∃ x, l[i]? = some x := ⟨_, List.getElem?_eq_getElem hlt⟩
    have hxI := hI x (List.mem_of_getElem? hx)
    have hbadx : ¬ (0 ≤ x ∧ x < 2 * s.vars) → ¬ ∀ x ∈ l, 0 ≤ x ∧ x < 2 * s.vars := fun h e => h (e x (List.mem_of_getElem? hx))
    have htk : l.take (i + 1) = l.take i ++ [x] := by
      rw [List.take_add_one, hx]; rfl
    (repeat (first|refine ja ?_|refine jb ?_|refine jc ?_|refine jd ?_|refine je ?_|refine jf ?_|refine jg ?_|refine jh ?_|refine ji ?_|refine jj ?_|refine jk ?_|refine jl ?_|refine jm ?_|refine jn ?_|refine jo ?_|refine jp ?_|refine jq ?_|refine jr ?_|refine js ?_|refine jt ?_|refine ju ?_|refine jv ?_|refine jw ?_|refine jx ?_|refine jy ?_|refine jz ?_|refine jA ?_|refine jB ?_|refine jC ?_|refine jD ?_|refine jE ?_|refine jF ?_|refine jG ?_|refine jH ?_|refine jI ?_|refine jJ ?_|refine jK ?_|refine jL ?_|refine jM (by assumption) ?_|refine jN (by assumption) rfl ?_|refine jO (by assumption) ?_|refine jP (by assumption) rfl ?_|refine jQ ?_|refine jR ?_|refine jS ?_|refine jT ?_|refine jU (by assumption) rfl ?_))
    refine M.share_j (fun vals w' => ∃ lv2, vals = [lv2] ∧ (0 ≤ x ∧ x < 2 * s.vars) ∧ GI w' (w.heap.size ≤ ·) lv2 (ddp (l.take (i + 1))) ∧ Keep w w' No) ?_ ?_
    · rintro vals w2 ⟨lv2, rfl, hx2, g2, k2⟩ _
      (repeat (first|refine ja ?_|refine jb ?_|refine jc ?_|refine jd ?_|refine je ?_|refine jf ?_|refine jg ?_|refine jh ?_|refine ji ?_|refine jj ?_|refine jk ?_|refine jl ?_|refine jm ?_|refine jn ?_|refine jo ?_|refine jp ?_|refine jq ?_|refine jr ?_|refine js ?_|refine jt ?_|refine ju ?_|refine jv ?_|refine jw ?_|refine jx ?_|refine jy ?_|refine jz ?_|refine jA ?_|refine jB ?_|refine jC ?_|refine jD ?_|refine jE ?_|refine jF ?_|refine jG ?_|refine jH ?_|refine jI ?_|refine jJ ?_|refine jK ?_|refine jL ?_|refine jM (by assumption) ?_|refine jN (by assumption) rfl ?_|refine jO (by assumption) ?_|refine jP (by assumption) rfl ?_|refine jQ ?_|refine jR ?_|refine jS ?_|refine jT ?_|refine jU (by assumption) rfl ?_))
      exact hK (i + 1) _ _ (by omega) ⟨lv2, rfl, by omega, fun y hy => by
        rw [htk] at hy
        rcases List.mem_append.1 hy with e | e
        · exact hok y e
        · simp only [List.mem_singleton] at e; rw [e]; exact hx2, g2, k2⟩
    · intro K2 hK2
      refine M.idxLV_i (hrow.keep k1 (fun _ _ _ e => e)) rfl (by omega) (by omega) (x := x) (by simpa using hx) (fun bb oo hA hcc => ?_)
      (repeat (first|refine ja ?_|refine jb ?_|refine jc ?_|refine jd ?_|refine je ?_|refine jf ?_|refine jg ?_|refine jh ?_|refine ji ?_|refine jj ?_|refine jk ?_|refine jl ?_|refine jm ?_|refine jn ?_|refine jo ?_|refine jp ?_|refine jq ?_|refine jr ?_|refine js ?_|refine jt ?_|refine ju ?_|refine jv ?_|refine jw ?_|refine jx ?_|refine jy ?_|refine jz ?_|refine jA ?_|refine jB ?_|refine jC ?_|refine jD ?_|refine jE ?_|refine jF ?_|refine jG ?_|refine jH ?_|refine jI ?_|refine jJ ?_|refine jK ?_|refine jL ?_|refine jM (by assumption) ?_|refine jN (by assumption) rfl ?_|refine jO (by assumption) ?_|refine jP (by assumption) rfl ?_|refine jQ ?_|refine jR ?_|refine jS ?_|refine jT ?_|refine jU (by assumption) rfl ?_))
      have kd := Keep.drew w1 No
      have k1 := k1.trans kd (fun _ _ e => e)
      have g1 := g1.keep kd (fun _ _ _ e => e)
      have hB1 := hB1.keep kd (fun e => e)
      generalize w1.drew = w2 at *
      by_cases hx0 : x < 0
      · (repeat (first|refine ja ?_|refine jb ?_|refine jc ?_|refine jd ?_|refine je ?_|refine jf ?_|refine jg ?_|refine jh ?_|refine ji ?_|refine jj ?_|refine jk ?_|refine jl ?_|refine jm ?_|refine jn ?_|refine jo ?_|refine jp ?_|refine jq ?_|refine jr ?_|refine js ?_|refine jt ?_|refine ju ?_|refine jv ?_|refine jw ?_|refine jx ?_|refine jy ?_|refine jz ?_|refine jA ?_|refine jB ?_|refine jC ?_|refine jD ?_|refine jE ?_|refine jF ?_|refine jG ?_|refine jH ?_|refine jI ?_|refine jJ ?_|refine jK ?_|refine jL ?_|refine jM (by assumption) ?_|refine jN (by assumption) rfl ?_|refine jO (by assumption) ?_|refine jP (by assumption) rfl ?_|refine jQ ?_|refine jR ?_|refine jS ?_|refine jT ?_|refine jU (by assumption) rfl ?_))
        rw [if_neg (hbadx (by omega))]
        exact ⟨trivial, k1⟩
      (repeat (first|refine ja ?_|refine jb ?_|refine jc ?_|refine jd ?_|refine je ?_|refine jf ?_|refine jg ?_|refine jh ?_|refine ji ?_|refine jj ?_|refine jk ?_|refine jl ?_|refine jm ?_|refine jn ?_|refine jo ?_|refine jp ?_|refine jq ?_|refine jr ?_|refine js ?_|refine jt ?_|refine ju ?_|refine jv ?_|refine jw ?_|refine jx ?_|refine jy ?_|refine jz ?_|refine jA ?_|refine jB ?_|refine jC ?_|refine jD ?_|refine jE ?_|refine jF ?_|refine jG ?_|refine jH ?_|refine jI ?_|refine jJ ?_|refine jK ?_|refine jL ?_|refine jM (by assumption) ?_|refine jN (by assumption) rfl ?_|refine jO (by assumption) ?_|refine jP (by assumption) rfl ?_|refine jQ ?_|refine jR ?_|refine jS ?_|refine jT ?_|refine jU (by assumption) rfl ?_))
      refine M.call_i (var_ret x w2) ?_; rintro _ w3 ⟨rfl, k3⟩
      have hvx : varOf x = x / 2 := by unfold varOf; rw [if_neg (by omega)]
      rw [hvx]
      have hB3 := hB1.keep k3 (fun e => e)
      have k13 := k1.trans k3 (fun _ _ e => e)
      have g3 := g1.keep k3 (fun _ _ _ e => e)
      by_cases hxv : (s.vars : Int) ≤ x / 2
      · (repeat (first|refine ja ?_|refine jb ?_|refine jc ?_|refine jd ?_|refine je ?_|refine jf ?_|refine jg ?_|refine jh ?_|refine ji ?_|refine jj ?_|refine jk ?_|refine jl ?_|refine jm ?_|refine jn ?_|refine jo ?_|refine jp ?_|refine jq ?_|refine jr ?_|refine js ?_|refine jt ?_|refine ju ?_|refine jv ?_|refine jw ?_|refine jx ?_|refine jy ?_|refine jz ?_|refine jA ?_|refine jB ?_|refine jC ?_|refine jD ?_|refine jE ?_|refine jF ?_|refine jG ?_|refine jH ?_|refine jI ?_|refine jJ ?_|refine jK ?_|refine jL ?_|refine jM (by assumption) ?_|refine jN (by assumption) rfl ?_|refine jO (by assumption) ?_|refine jP (by assumption) rfl ?_|refine jQ ?_|refine jR ?_|refine jS ?_|refine jT ?_|refine jU (by assumption) rfl ?_))
        rw [if_neg (hbadx (by omega))]
        exact ⟨trivial, k13⟩
      (repeat (first|refine ja ?_|refine jb ?_|refine jc ?_|refine jd ?_|refine je ?_|refine jf ?_|refine jg ?_|refine jh ?_|refine ji ?_|refine jj ?_|refine jk ?_|refine jl ?_|refine jm ?_|refine jn ?_|refine jo ?_|refine jp ?_|refine jq ?_|refine jr ?_|refine js ?_|refine jt ?_|refine ju ?_|refine jv ?_|refine jw ?_|refine jx ?_|refine jy ?_|refine jz ?_|refine jA ?_|refine jB ?_|refine jC ?_|refine jD ?_|refine jE ?_|refine jF ?_|refine jG ?_|refine jH ?_|refine jI ?_|refine jJ ?_|refine jK ?_|refine jL ?_|refine jM (by assumption) ?_|refine jN (by assumption) rfl ?_|refine jO (by assumption) ?_|refine jP (by assumption) rfl ?_|refine jQ ?_|refine jR ?_|refine jS ?_|refine jT ?_|refine jU (by assumption) rfl ?_))
      refine M.call_i (contains_ret (GI.lv g3) (by show _ ≤ _; omega) x) ?_; rintro _ w4 ⟨rfl, k4⟩
      have g4 := g3.keep k4 (fun _ _ _ e => e)
      have k14 := k13.trans k4 (fun _ _ e => e)
      by_cases hm : x ∈ ddp (l.take i)
      · rw [decide_eq_true hm]
        (repeat (first|refine ja ?_|refine jb ?_|refine jc ?_|refine jd ?_|refine je ?_|refine jf ?_|refine jg ?_|refine jh ?_|refine ji ?_|refine jj ?_|refine jk ?_|refine jl ?_|refine jm ?_|refine jn ?_|refine jo ?_|refine jp ?_|refine jq ?_|refine jr ?_|refine js ?_|refine jt ?_|refine ju ?_|refine jv ?_|refine jw ?_|refine jx ?_|refine jy ?_|refine jz ?_|refine jA ?_|refine jB ?_|refine jC ?_|refine jD ?_|refine jE ?_|refine jF ?_|refine jG ?_|refine jH ?_|refine jI ?_|refine jJ ?_|refine jK ?_|refine jL ?_|refine jM (by assumption) ?_|refine jN (by assumption) rfl ?_|refine jO (by assumption) ?_|refine jP (by assumption) rfl ?_|refine jQ ?_|refine jR ?_|refine jS ?_|refine jT ?_|refine jU (by assumption) rfl ?_))
        exact hK2 _ _ ⟨lv, rfl, by omega, by rw [htk, ddp_snoc, if_pos hm]; exact g4, k14⟩
      · rw [decide_eq_false hm]
        (repeat (first|refine ja ?_|refine jb ?_|refine jc ?_|refine jd ?_|refine je ?_|refine jf ?_|refine jg ?_|refine jh ?_|refine ji ?_|refine jj ?_|refine jk ?_|refine jl ?_|refine jm ?_|refine jn ?_|refine jo ?_|refine jp ?_|refine jq ?_|refine jr ?_|refine js ?_|refine jt ?_|refine ju ?_|refine jv ?_|refine jw ?_|refine jx ?_|refine jy ?_|refine jz ?_|refine jA ?_|refine jB ?_|refine jC ?_|refine jD ?_|refine jE ?_|refine jF ?_|refine jG ?_|refine jH ?_|refine jI ?_|refine jJ ?_|refine jK ?_|refine jL ?_|refine jM (by assumption) ?_|refine jN (by assumption) rfl ?_|refine jO (by assumption) ?_|refine jP (by assumption) rfl ?_|refine jQ ?_|refine jR ?_|refine jS ?_|refine jT ?_|refine jU (by assumption) rfl ?_))
        refine M.buildSlice_i [vi x] (by kernel_rfl) (fun w5 b5 k5 s5 => ?_)
        refine M.append1_i (GC.keep g4 k5 (fun _ _ _ e => e)) (Row.of_blk' (D := fun _ => True) b5 trivial) rfl (by omega) (fun lv6 w6 g6 k6 => ?_)
        have q5 := k5.size
        have q4 := k14.size
        exact hK2 _ _ ⟨lv6, rfl, by omega, by
          rw [htk, ddp_snoc, if_neg hm]
          exact GC.mono g6 (fun b hb e => by
            rcases e with e | e
            · exact e
            · show w.heap.size ≤ b; omega), (k14.trans k5 (fun _ _ e => e)).trans k6 (fun b hb e => by have e : w.heap.size ≤ b := e; omega)⟩
  · have ei : i = l.length := by omega
    subst ei
    rw [List.take_length] at hok g1 hdl
    have hq := hT.wb.oq
    have hr := hT.wb.orr
    (repeat (first|refine ja ?_|refine jb ?_|refine jc ?_|refine jd ?_|refine je ?_|refine jf ?_|refine jg ?_|refine jh ?_|refine ji ?_|refine jj ?_|refine jk ?_|refine jl ?_|refine jm ?_|refine jn ?_|refine jo ?_|refine jp ?_|refine jq ?_|refine jr ?_|refine js ?_|refine jt ?_|refine ju ?_|refine jv ?_|refine jw ?_|refine jx ?_|refine jy ?_|refine jz ?_|refine jA ?_|refine jB ?_|refine jC ?_|refine jD ?_|refine jE ?_|refine jF ?_|refine jG ?_|refine jH ?_|refine jI ?_|refine jJ ?_|refine jK ?_|refine jL ?_|refine jM (by assumption) ?_|refine jN (by assumption) rfl ?_|refine jO (by assumption) ?_|refine jP (by assumption) rfl ?_|refine jQ ?_|refine jR ?_|refine jS ?_|refine jT ?_|refine jU (by assumption) rfl ?_))
    refine M.store_i hB1 (by simp) rfl (fun w2 b2 k2 s2 => ?_)
    obtain ⟨A3, c3, rfl, _, _⟩ := GC.row2 g1 (by omega)
    have b2' : Blk w2 q [vi s.vars, vi (s.ever + 1), .map (some r), vb, wv, vd] := b2
    (repeat (first|refine ja ?_|refine jb ?_|refine jc ?_|refine jd ?_|refine je ?_|refine jf ?_|refine jg ?_|refine jh ?_|refine ji ?_|refine jj ?_|refine jk ?_|refine jl ?_|refine jm ?_|refine jn ?_|refine jo ?_|refine jp ?_|refine jq ?_|refine jr ?_|refine js ?_|refine jt ?_|refine ju ?_|refine jv ?_|refine jw ?_|refine jx ?_|refine jy ?_|refine jz ?_|refine jA ?_|refine jB ?_|refine jC ?_|refine jD ?_|refine jE ?_|refine jF ?_|refine jG ?_|refine jH ?_|refine jI ?_|refine jJ ?_|refine jK ?_|refine jL ?_|refine jM (by assumption) ?_|refine jN (by assumption) rfl ?_|refine jO (by assumption) ?_|refine jP (by assumption) rfl ?_|refine jQ ?_|refine jR ?_|refine jS ?_|refine jT ?_|refine jU (by assumption) rfl ?_))
    refine M.pure_i (.agg ⟨[.slice A3 (ddp l).length c3, .bool true]⟩) (fun _ => by kernel_rfl) ?_
    refine M.new_i (l := [.slice A3 (ddp l).length c3, .bool true]) (fun w3 b3 k3 s3 => ?_)
    have q1 := k1.size
    have mp3 := (hT1.wb.mp.keep k2 (by show ¬ r = q; intro e; rw [e] at hr; omega)).keep k3 (fun e => e)
    have b2'' := b2'.keep k3 (fun e => e)
    refine M.mapUpdate_i (kt := 3) (et := 65) (by kernel_rfl) (by kernel_rfl) mp3 (fun w4 m4 k4 s4 => ?_)
    have hne : ∀ z ∈ kvW bk s.cls, z.1 ≠ (s.ever : Int) := fun z hz => by
      obtain ⟨c, hc, rfl⟩ := List.mem_map.1 hz
      have := hnum c hc
      show (c.n : Int) ≠ _
      omega
    rw [upd_new hne] at m4
    have hrq : q ≠ r := fun e => by rw [e] at hq; omega
    have b24 := b2''.keep k4 hrq
    have hr2 : r < w2.heap.size := by have := hT.wb.lt r (by omega); omega
    have b34 := b3.keep k4 (by show ¬ w2.heap.size = r; omega)
    have k14 : Keep w1 w4 (fun b => b = q ∨ b = r) := ((k2.mono (fun _ _ e => .inl e)).trans k3 (fun _ _ e => e.elim)).trans k4 (fun _ _ e => .inr e)
    have hltw : ∀ b, ow b ≠ 0 → b < w.heap.size := hT.wb.lt
    have own : ∀ b, w.heap.size ≤ b → ow b = 0 := fun b hb => by
      by_cases e : ow b = 0
      · exact e
      · have := hltw b e; omega
    have g4 := g1.keep k14 (fun b hb e e2 => by
      have e : w.heap.size ≤ b := e
      have := own b e
      rcases e2 with e2 | e2
      · subst e2; omega
      · subst e2; omega)
    have wh4 := hT1.wb.wh.keep k14 (fun b hb e e2 => by
      rcases e2 with e2 | e2
      · subst e2; omega
      · subst e2; omega)
    (repeat (first|refine ja ?_|refine jb ?_|refine jc ?_|refine jd ?_|refine je ?_|refine jf ?_|refine jg ?_|refine jh ?_|refine ji ?_|refine jj ?_|refine jk ?_|refine jl ?_|refine jm ?_|refine jn ?_|refine jo ?_|refine jp ?_|refine jq ?_|refine jr ?_|refine js ?_|refine jt ?_|refine ju ?_|refine jv ?_|refine jw ?_|refine jx ?_|refine jy ?_|refine jz ?_|refine jA ?_|refine jB ?_|refine jC ?_|refine jD ?_|refine jE ?_|refine jF ?_|refine jG ?_|refine jH ?_|refine jI ?_|refine jJ ?_|refine jK ?_|refine jL ?_|refine jM (by assumption) ?_|refine jN (by assumption) rfl ?_|refine jO (by assumption) ?_|refine jP (by assumption) rfl ?_|refine jQ ?_|refine jR ?_|refine jS ?_|refine jT ?_|refine jU (by assumption) rfl ?_))
    refine M.buildSlice_i [vi s.ever] (by kernel_rfl) (fun w5 b5 k5 s5 => ?_)
    have hwl : s.whole.length ≤ s.sz := by unfold Wt.sz; omega
    refine M.append1_i (GC.keep wh4 k5 (fun _ _ _ e => e)) (Row.of_blk' (D := fun _ => True) b5 trivial) rfl (by omega) (fun v6 w6 g6 k6 => ?_)
    have b26 := (b24.keep k5 (fun e => e)).keep k6 (by show ¬ ow q = 4; omega)
    (repeat (first|refine ja ?_|refine jb ?_|refine jc ?_|refine jd ?_|refine je ?_|refine jf ?_|refine jg ?_|refine jh ?_|refine ji ?_|refine jj ?_|refine jk ?_|refine jl ?_|refine jm ?_|refine jn ?_|refine jo ?_|refine jp ?_|refine jq ?_|refine jr ?_|refine js ?_|refine jt ?_|refine ju ?_|refine jv ?_|refine jw ?_|refine jx ?_|refine jy ?_|refine jz ?_|refine jA ?_|refine jB ?_|refine jC ?_|refine jD ?_|refine jE ?_|refine jF ?_|refine jG ?_|refine jH ?_|refine jI ?_|refine jJ ?_|refine jK ?_|refine jL ?_|refine jM (by assumption) ?_|refine jN (by assumption) rfl ?_|refine jO (by assumption) ?_|refine jP (by assumption) rfl ?_|refine jQ ?_|refine jR ?_|refine jS ?_|refine jT ?_|refine jU (by assumption) rfl ?_))
    refine M.store_i b26 (by simp) (GC.one g6) (fun w7 b7 k7 s7 => ?_)
    have q2 := k2.size; have q3 := k3.size; have q4 := k4.size; have q5 := k5.size; have q6 := k6.size
    have k47 : Keep w4 w7 (fun b => b = q ∨ ow b = 4) := ((k5.mono (fun _ _ e => e.elim)).trans (k6.mono (fun _ _ e => .inr e)) (fun _ _ e => e)).trans (k7.mono (fun _ _ e => .inl e)) (fun _ _ e => e)
    have g47 := g4.keep k47 (fun b hb e e2 => by
      have e : w.heap.size ≤ b := e
      have := own b e
      rcases e2 with e2 | e2
      · subst e2; omega
      · omega)
    have m47 := m4.keep k47 (by rintro (e | e); exact hrq e.symm; omega)
    have hqlt := hltw q (by omega)
    have b37 := b34.keep k47 (by
      rintro (e | e)
      · omega
      · have := own w2.heap.size (by omega); omega)
    have g67 := g6.keep k7 (fun b hb e e2 => by
      have e2 : b = q := e2
      subst e2
      rcases e with e | e
      · omega
      · omega)
    have k17 : Keep w1 w7 (fun b => b = q ∨ b = r ∨ ow b = 4) := (k14.mono (fun b _ e => by rcases e with e | e; exact .inl e; exact .inr (.inl e))).trans k47 (fun b _ e => by rcases e with e | e; exact .inl e; exact .inr (.inr e))
    have g1b : ∀ b, blkOf (.slice A3 (ddp l).length c3) b → b < w1.heap.size := fun b hb => (GC.blkOf g1 hb).2
    have wb7 := WB.add (nb := w2.heap.size) (L := fun b => w.heap.size ≤ b ∧ b < w1.heap.size) hT1.wb hnum k17 b7 m47 b37 (GC.mono (GC.own g47) (fun b _ hb => ⟨(GC.blkOf g1 hb).1, g1b b hb⟩)) g67 (own _ (by omega)) (fun b hb => ⟨own b hb.1, by omega⟩) (fun b hb => by
      rcases hb with e | e
      · exact ⟨.inl e, fun e2 => by have := own b (by omega); omega, fun e2 => by have := own b (GC.blkOf g1 e2).1; omega⟩
      · exact ⟨.inr (own b (by omega)), by omega, fun e2 => by have := g1b b e2; omega⟩)
    have kk : Keep w1 w7 (fun b => ow b ≠ 0) := k17.mono (fun b _ e => by
      show ow b ≠ 0
      rcases e with e | e | e
      · rw [e]; omega
      · rw [e]; omega
      · omega)
    obtain ⟨O', h8, m8⟩ := hT.setW (w1 := w7) ((k1.mono (fun _ _ e => e.elim)).trans kk (fun _ _ e => e)) wb7 (fun b hb e => by
      unfold owA at e
      split at e
      · omega
      · split at e
        · rename_i e2
          have := (GC.blkOf g1 e2).1
          omega
        · split at e
          · rename_i e2
            rcases (GC.blkOf g67 e2).1 with e3 | e3
            · omega
            · omega
          · split at e
            · exact absurd rfl e
            · exact e)
    rw [if_pos hok]
    exact ⟨by first | rfl | trivial, O', _, _, v6, ⟨_, _, _, _, _, _, h8⟩, m8⟩
end
end Go.Proofs.Ytnmbgfonlpjicaa
