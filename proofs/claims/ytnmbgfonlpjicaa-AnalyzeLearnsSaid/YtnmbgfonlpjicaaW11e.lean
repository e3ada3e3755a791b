import Derived.Test.YtnmbgfonlpjicaaW11q
namespace Go.Proofs.Ytnmbgfonlpjicaa
open Go.Mw Go.MapKept
set_option linter.unusedVariables false
set_option linter.unusedSimpArgs false
set_option maxRecDepth 100000
attribute [local irreducible] M.val M.unit M.next M.pick M.new M.nilCheck M.load1 M.loadA M.store M.fieldAddr M.indexSl M.indexArr M.slice M.makeSlice M.buildSlice M.len M.lenS M.cap M.append M.extract M.conv M.not M.neg M.bin M.shift M.eqB M.eqNil M.call M.callv M.gd M.share M.cond M.loop M.draw pureW readW Ret
/-! (*breakwater/watch.Watch).sweep: function 31 -/
def sh31 (x0 x1 : Value) (R : Kt) (w : World) : Prop :=
  M.nilCheck x0 (fun t15 w =>
  M.fieldAddr 4 t15 (fun t16 w =>
  M.load1 t16 (fun t17 w =>
  M.len t17 (fun t18 w =>
  M.share (fun K1 w =>
  M.loop [(Value.slice none 0 0), (Value.int IntKind.i64 (-1)), (Value.bool false), (Value.int IntKind.i64 0)] (fun s2 K2 w => ∀ _ : List Value,
  M.bin .lss (s2.getD 3 undef) t18 (fun t20 w =>
  M.cond t20
  (M.share (fun K3 w =>
  M.indexSl 1 t17 (s2.getD 3 undef) (fun t22 w =>
  M.load1 t22 (fun t23 w =>
  M.nilCheck x0 (fun t25 w =>
  M.fieldAddr 2 t25 (fun t26 w =>
  M.load1 t26 (fun t27 w =>
  readW Try.prog (Instr.lookup 61 t27 t23 false) (fun t29 w =>
  M.eqNil 0 false t29 (fun t31 w =>
  M.gd t31 false (fun k w => k t29 w) (fun t33 w =>
  M.gd t31 false (fun k w => M.nilCheck t33 k w) (fun t34 w =>
  M.gd t31 false (fun k w => M.fieldAddr 1 t34 k w) (fun t35 w =>
  M.gd t31 false (fun k w => M.load1 t35 k w) (fun t36 w =>
  M.gd t31 false (fun k w => M.not t36 k w) (fun t37 w =>
  M.pick t31 (Value.bool true) t37 (fun t38 w =>
  M.cond t38
  (K3 [(s2.getD 0 undef), (s2.getD 1 undef), (s2.getD 2 undef)] w)
  (M.call Try.prog 51 #[x0, x1, t23] (fun t43 w =>
  M.extract 0 t43 (fun t44 w =>
  M.extract 1 t43 (fun t45 w =>
  M.gd (s2.getD 2 undef) false (fun k w => k t45 w) (fun t48 w =>
  M.pick (s2.getD 2 undef) (Value.bool true) t48 (fun t49 w =>
  M.share (fun K4 w =>
  M.nilCheck t29 (fun t51 w =>
  M.fieldAddr 1 t51 (fun t52 w =>
  M.load1 t52 (fun t53 w =>
  M.cond t53
  (M.buildSlice 3 1 #[.int .i64 0] 1 [(0, t23)] (fun t56 w =>
  M.append 3 1 8 #[.int .i64 0] (s2.getD 0 undef) t56 (fun t57 w =>
  K4 [t57] w) w) w)
  (K4 [(s2.getD 0 undef)] w)) w) w) w) (fun s4 w => ∀ _ : List Value,
  M.not t44 (fun t59 w =>
  M.cond t59
  (M.nilCheck x0 (fun t63 w =>
  M.fieldAddr 4 t63 (fun t64 w =>
  M.load1 t64 (fun t65 w =>
  M.bin .add (s2.getD 3 undef) (Value.int IntKind.i64 1) (fun t67 w =>
  M.slice 1 t65 (some t67) none none (fun t68 w =>
  M.append 3 1 8 #[.int .i64 0] (s4.getD 0 undef) t68 (fun t69 w =>
  K1 [t69, t23, t49] w) w) w) w) w) w) w)
  (K3 [(s4.getD 0 undef), (s2.getD 1 undef), t49] w)) w) w) w) w) w) w) w)) w) w) w) w) w) w) w) w) w) w) w) w) w) (fun s3 w => ∀ _ : List Value,
  M.bin .add (s2.getD 3 undef) (Value.int IntKind.i64 1) (fun t70 w =>
  K2 [(s3.getD 0 undef), (s3.getD 1 undef), (s3.getD 2 undef), t70] w) w) w)
  (K1 [(s2.getD 0 undef), (s2.getD 1 undef), (s2.getD 2 undef)] w)) w) w) (fun s1 w => ∀ _ : List Value,
  M.nilCheck x0 (fun t73 w =>
  M.fieldAddr 4 t73 (fun t74 w =>
  M.store 1 t74 (s1.getD 0 undef) (fun _ w =>
  R (.tuple #[(s1.getD 1 undef), (s1.getD 2 undef)]) w) w) w) w) w) w) w) w) w
theorem ok31 (x0 x1 : Value) (R : Kt) (w : World) (h : sh31 x0 x1 R w) : Ret Try.prog 31 #[x0, x1] w R :=
  ret_mk <| calls_of_comp mixed (c := Try.f31.body.getD .skip) (args := [x0, x1]) (rs := [(ResultVar.tmp 4), (ResultVar.tmp 5)]) (Ann.seq Ann.text (Ann.seq Ann.text (Ann.seq Ann.text (Ann.seq (Ann.seq Ann.text (Ann.jblock [6, 7, 8] [9, 10, 11, 12, 13, 19, 20, 21, 22, 23, 24, 25, 26, 27, 28, 29, 30, 31, 32, 33, 34, 35, 36, 37, 38, 39, 40, 41, 42, 43, 44, 45, 46, 47, 48, 49, 50, 51, 52, 53, 54, 55, 56, 57, 58, 59, 60, 61, 62, 63, 64, 65, 66, 67, 68, 69, 70] (Ann.loop [6, 7, 8, 19] [9, 10, 11, 12, 13, 20, 21, 22, 23, 24, 25, 26, 27, 28, 29, 30, 31, 32, 33, 34, 35, 36, 37, 38, 39, 40, 41, 42, 43, 44, 45, 46, 47, 48, 49, 50, 51, 52, 53, 54, 55, 56, 57, 58, 59, 60, 61, 62, 63, 64, 65, 66, 67, 68, 69, 70] (Ann.seq Ann.text (Ann.seq (Ann.cond Ann.leaf Ann.leaf) (Ann.seq (Ann.jblock [6, 7, 8] [9, 10, 11, 12, 13, 21, 22, 23, 24, 25, 26, 27, 28, 29, 30, 31, 32, 33, 34, 35, 36, 37, 38, 39, 40, 41, 42, 43, 44, 45, 46, 47, 48, 49, 50, 51, 52, 53, 54, 55, 56, 57, 58, 59, 60, 61, 62, 63, 64, 65, 66, 67, 68, 69] (Ann.seq Ann.text (Ann.seq Ann.text (Ann.seq (Ann.seq Ann.text (Ann.cond Ann.leaf Ann.leaf)) (Ann.seq Ann.text (Ann.seq Ann.text (Ann.join [6] [50, 51, 52, 53, 54, 55, 56, 57] (Ann.seq Ann.text (Ann.cond Ann.text Ann.leaf)) (Ann.seq Ann.text (Ann.cond (Ann.seq Ann.text (Ann.seq Ann.text Ann.leaf)) Ann.leaf))))))))) Ann.text)))))) (Ann.seq Ann.text (Ann.seq Ann.text Ann.leaf))))))
    Try.func31 (by kernel_rfl) (by kernel_rfl)
    (Eq.mp (by kernel_rfl) h)

def X0 : Int → Int → Prop := fun _ _ => False
structure SwI (t : Tr) (s : Wt) (t' : Tr) (s' : Wt) (left : List Int) (news : Bool) (k : Nat) : Prop where
  ext : ∃ new nb, Ext t t' new nb
  ceq : CEq s.cls s'.cls
  wi : WI t' s' X0
  ri : RI t' s'.cls
  wh : s'.whole = s.whole
  dn : s'.done = s.done
  ev : s'.ever = s.ever
  lft : ∀ c ∈ s'.cls, c.whole = true → (c.n : Int) ∈ left ∨ (c.n : Int) ∈ s.whole.drop k
  sz : s'.sz + left.length + wc s'.cls + (s.whole.length - k) ≤ s.sz + wc s.cls + s.whole.length
  yes : news = true → t.L.length < t'.L.length
def SwN (t t' : Tr) (s' : Wt) (left : List Int) (news : Bool) : Prop := news = false → t' = t ∧ ∀ c ∈ s'.cls, c.whole = true → (c.n : Int) ∈ left → ∃ x ∈ c.lits, t.has x
structure SwR (t : Tr) (s : Wt) (t' : Tr) (s' : Wt) (bad : Int) (news : Bool) : Prop where
  ext : ∃ new nb, Ext t t' new nb
  ceq : CEq s.cls s'.cls
  wi : WI t' s' X0
  ri : RI t' s'.cls
  dn : s'.done = s.done
  ev : s'.ever = s.ever
  sz : s'.sz ≤ s.sz + s.cls.length
  out : (bad = -1 ∧ (news = false → t' = t ∧ ∀ c ∈ s'.cls, c.whole = true → ∃ x ∈ c.lits, t.has x) ∧ (news = true → t.L.length < t'.L.length)) ∨ (0 ≤ bad ∧ ∃ c ∈ s'.cls, (c.n : Int) = bad ∧ ∀ x ∈ c.lits, t'.val x < 0)
/-- Behind one step. -/
theorem SwI.step {t : Tr} {s : Wt} {t1 t2 : Tr} {s1 s2 : Wt} {left : List Int} {news : Bool} {k : Nat} {v : Value} (hI : SwI t s t1 s1 left news k) (hf : t1.Fine) {c : Wc} (hc : c ∈ s1.cls) (hcw : c.whole = true) (hk : s.whole[k]? = some (c.n : Int)) (hW : WhoP t1 s1 c v t2 s2) (hc0 : 0 ≤ t1.count) (hcc : t1.count ≤ 1000000000000) :
    ∃ (ok more : Bool) (c' : Wc), v = .tuple #[.bool ok, .bool more] ∧ s2.get c.n = some c' ∧ c'.n = c.n ∧ (ok = false → ∃ d ∈ s2.cls, (d.n : Int) = c.n ∧ ∀ x ∈ d.lits, t2.val x < 0) ∧
      SwI t s t2 s2 (left ++ if c'.whole then [(c.n : Int)] else []) (news || more) (k + 1) ∧ (ok = true → SwN t t1 s1 left news → SwN t t2 s2 (left ++ if c'.whole then [(c.n : Int)] else []) (news || more)) := by
  obtain ⟨⟨new, nb, hx, hx0⟩, hq, wi2, hri, hwh, hdn, hev, hcl, ok, more, c', hoth, hv, hg', hn', hp', hsz, hbad, hok, hmore⟩ := who_step hI.wi hf hc hcw hW hc0 hcc
  have hlt := (List.getElem?_eq_some_iff.1 hk).1
  have hdrop : s.whole.drop k = (c.n : Int) :: s.whole.drop (k + 1) := by
    rw [List.drop_eq_getElem_cons hlt]
    rw [List.getElem?_eq_getElem hlt] at hk
    simp only [Option.some.injEq] at hk
    rw [hk]
  obtain ⟨n0, b0, hx00⟩ := hI.ext
  have hL1 : t.L.length ≤ t1.L.length := by rw [hx00.L, List.length_append]; omega
  have hL2 : t1.L.length ≤ t2.L.length := by rw [hx.L, List.length_append]; omega
  refine ⟨ok, more, c', hv, hg', hn', fun h => ⟨c', (get_some hg').1, by omega, fun x hx => ?_⟩, ⟨⟨_, _, hx00.trans hx⟩, hI.ceq.trans hq, wi2, hri hI.ri, by rw [hwh, hI.wh], by rw [hdn, hI.dn], by rw [hev, hI.ev], fun d hd hw => ?_, ?_, fun h => ?_⟩, fun hok' hno h => ?_⟩
  · obtain ⟨_, _, e, h2⟩ := hbad h
    rw [e]; exact h2 x (hp'.mem_iff.1 hx)
  · rcases hoth d hd with e | ⟨h1, h2⟩
    · subst e
      rw [hw, hn']
      exact .inl (by simp)
    · rcases hI.lft d h1 hw with e | e
      · exact .inl (List.mem_append_left _ e)
      · rw [hdrop] at e
        rcases List.mem_cons.1 e with e | e
        · omega
        · exact .inr e
  · have := hI.sz
    rw [List.length_append]
    cases hw : c'.whole with
    | true => rw [hw] at hsz; simp at hsz ⊢; omega
    | false => rw [hw] at hsz; simp at hsz ⊢; omega
  · rcases Bool.or_eq_true_iff.1 h with e | e
    · have := hI.yes e; omega
    · have := hmore e; omega
  · simp only [Bool.or_eq_false_iff] at h
    obtain ⟨e1, h1⟩ := hno h.1
    obtain ⟨e2, h2⟩ := hok hok' h.2
    refine ⟨by rw [e2, e1], fun d hd hw hm => ?_⟩
    rcases hoth d hd with e | ⟨g1, g2⟩
    · subst e
      obtain ⟨x, hx1, hx2⟩ := h2 hw
      exact ⟨x, hp'.mem_iff.2 hx1, by rw [← e1]; exact hx2⟩
    · refine h1 d g1 hw ?_
      rcases List.mem_append.1 hm with e | e
      · exact e
      · split at e
        · simp at e; omega
        · simp at e
theorem SwI.fin {t : Tr} {s : Wt} {t1 : Tr} {s1 : Wt} {left : List Int} {news : Bool} {k : Nat} (hI : SwI t s t1 s1 left news k) (hk : k ≤ s.whole.length) {bad : Int}
    (h : (bad = -1 ∧ k = s.whole.length ∧ SwN t t1 s1 left news) ∨ (0 ≤ bad ∧ ∃ c ∈ s1.cls, (c.n : Int) = bad ∧ ∀ x ∈ c.lits, t1.val x < 0)) : SwR t s t1 { s1 with whole := left ++ s.whole.drop k } bad news := by
  refine ⟨hI.ext, hI.ceq, ⟨hI.wi.vars, hI.wi.byl, hI.wi.num, hI.wi.nod, hI.wi.rng, hI.wi.nodl, fun c hc hw => ?_, hI.wi.wat, hI.wi.dn⟩, hI.ri, hI.dn, hI.ev, ?_, ?_⟩
  · rcases hI.lft c hc hw with e | e
    · exact List.mem_append_left _ e
    · exact List.mem_append_right _ e
  · have h1 := hI.sz
    have h2 := wc_le s.cls
    have h3 := hI.wh
    unfold Wt.sz at h1 ⊢
    simp only [List.length_append, List.length_drop]
    rw [h3] at h1
    omega
  · rcases h with ⟨h1, rfl, h2⟩ | h1
    · refine .inl ⟨h1, fun hn => ?_, hI.yes⟩
      obtain ⟨e1, e2⟩ := h2 hn
      refine ⟨e1, fun c hc hw => e2 c hc hw ?_⟩
      rcases hI.lft c hc hw with e | e
      · exact e
      · simp at e
    · exact .inr h1
theorem M.or_i {k : Kt} {w : World} {a b : Bool} (h : k (.bool (a || b)) w) : M.gd (.bool a) false (fun k w => k (.bool b) w) (fun t48 w => M.pick (.bool a) (.bool true) t48 k w) w := by
  cases a
  · refine M.gd_ff ?_
    refine M.pick_f ?_
    exact h
  · refine M.gd_tf ?_
    refine M.pick_t ?_
    exact h
theorem WI.setWhole {t : Tr} {s : Wt} {X : Int → Int → Prop} {l : List Int} (wi : WI t s X) (h : ∀ c ∈ s.cls, c.whole = true → (c.n : Int) ∈ l) : WI t { s with whole := l } X :=
  ⟨wi.vars, wi.byl, wi.num, wi.nod, wi.rng, wi.nodl, h, wi.wat, wi.dn⟩
section
variable {w w1 : World} {p q r : Nat} {lab ow bk : Nat → Nat} {cv : Nat → Value} {wv : Value} {t : Tr} {s : Wt} {vb vw1 vd : Value} {bvs : List Value} {O : Nat → Prop}
/-- The list of clauses that are looked at whole is put anew. -/
theorem TWR.storeWh {K : Kt} (h : TWR w p q O bk cv wv t s) {v : Value} {l : List Int} {n0 : Nat} (g : GI w (fun b => n0 ≤ b ∧ ¬ O b) v l)
    (hK : ∀ w2 O' wv', TWR w2 p q O' bk cv wv' t { s with whole := l } → Keep w w2 O → (∀ b, b < n0 → O' b → O b) → K undef w2) : M.store 1 (.pointer (some ⟨q, 0 + 4, none⟩)) v K w := by
  obtain ⟨lab, ow, r, vb, vd, bvs, hT⟩ := h
  have hq := hT.wb.oq
  refine M.store_i hT.wb.st (by simp) (GC.one g) (fun w2 b2 k2 s2 => ?_)
  have g2 := g.keep k2 (fun b hb e e2 => e.2 ((hT.iff b).2 (.inr (by have e2 : b = q := e2; rw [e2]; omega))))
  have wb2 := hT.wb.setWh (w1 := w2) g2 (fun b e => by
    right
    apply Classical.byContradiction
    intro hn
    exact e.2 ((hT.iff b).2 (.inr hn))) (k2.mono (fun _ _ e => .inl e)) b2
  have hO : ∀ b, relX ow v 4 b ≠ 0 → ow b ≠ 0 ∨ blkOf v b := fun b e => relX_le e
  refine hK w2 (fun b => lab b ≠ 0 ∨ relX ow v 4 b ≠ 0) v ⟨lab, _, r, vb, vd, bvs, hT.tr.keep k2 (fun b _ e e2 => by have e2 : b = q := e2; have := hT.ap b e; rw [e2] at this; omega), wb2, fun b e => ?_, fun b => Iff.rfl⟩ (k2.mono (fun b _ e => (hT.iff b).2 (.inr (by have e : b = q := e; rw [e]; omega)))) (fun b hb e => ?_)
  · apply Classical.byContradiction
    intro hn
    rcases hO b hn with h1 | h1
    · exact h1 (hT.ap b e)
    · exact (GC.blkOf g h1).1.2 ((hT.iff b).2 (.inl e))
  · rcases e with e | e
    · exact (hT.iff b).2 (.inl e)
    · rcases hO b e with h1 | h1
      · exact (hT.iff b).2 (.inr h1)
      · have := (GC.blkOf g h1).1.1; omega
set_option maxHeartbeats 2000000 in
theorem sweep_ret (h : TWR w p q O bk cv wv t s) (wi : WI t s X0) (ri : RI t s.cls) (hz : s.sz + s.cls.length ≤ 400000000) (hcl : ∀ c ∈ s.cls, c.lits.length ≤ 1000000) (hc0 : 0 ≤ t.count) (hcc : t.count + t.vars ≤ 1000000000000) :
    Ret Try.prog 31 #[ptr q, ptr p] w (fun v w' => ∃ t' s' O' wv' bad news, v = .tuple #[vi bad, .bool news] ∧ TWR w' p q O' bk cv wv' t' s' ∧ OMod w w' O O' ∧ SwR t s t' s' bad news) := by
  obtain ⟨lab, ow, r, vb, vd, bvs, hT⟩ := id h
  have hB := hT.wb.st
  obtain ⟨WA, wcap, hwv, _, _⟩ := GC.row2 hT.wb.wh (by omega)
  subst hwv
  refine ok31 _ _ _ _ ?_
  unfold sh31
  (repeat (first|refine ja ?_|refine jb ?_|refine jc ?_|refine jd ?_|refine je ?_|refine jf ?_|refine jg ?_|refine jh ?_|refine ji ?_|refine jj ?_|refine jk ?_|refine jl ?_|refine jm ?_|refine jn ?_|refine jo ?_|refine jp ?_|refine jq ?_|refine jr ?_|refine js ?_|refine jt ?_|refine ju ?_|refine jv ?_|refine jw ?_|refine jx ?_|refine jy ?_|refine jz ?_|refine jA ?_|refine jB ?_|refine jC ?_|refine jD ?_|refine jE ?_|refine jF ?_|refine jG ?_|refine jH ?_|refine jI ?_|refine jJ ?_|refine jK ?_|refine jL ?_|refine jM (by assumption) ?_|refine jN (by assumption) rfl ?_|refine jO (by assumption) ?_|refine jP (by assumption) rfl ?_|refine jQ ?_|refine jR ?_|refine jS ?_|refine jT ?_|refine jU (by assumption) rfl ?_))
  refine M.share_j (fun vals w' => ∃ leftv leftl t' s' O' bad news, vals = [leftv, vi bad, .bool news] ∧ TWR w' p q O' bk cv (.slice WA s.whole.length wcap) t' s' ∧ OMod w w' O O' ∧ GI w' (fun b => w.heap.size ≤ b ∧ ¬ O' b) leftv leftl ∧ SwR t s t' { s' with whole := leftl } bad news) ?_ ?_
  · rintro vals w1 ⟨leftv, leftl, t', s', O', bad, news, rfl, h1, m1, g1, hR⟩ _
    simp only [List.getD_cons_zero, List.getD_cons_succ]
    (repeat (first|refine ja ?_|refine jb ?_|refine jc ?_|refine jd ?_|refine je ?_|refine jf ?_|refine jg ?_|refine jh ?_|refine ji ?_|refine jj ?_|refine jk ?_|refine jl ?_|refine jm ?_|refine jn ?_|refine jo ?_|refine jp ?_|refine jq ?_|refine jr ?_|refine js ?_|refine jt ?_|refine ju ?_|refine jv ?_|refine jw ?_|refine jx ?_|refine jy ?_|refine jz ?_|refine jA ?_|refine jB ?_|refine jC ?_|refine jD ?_|refine jE ?_|refine jF ?_|refine jG ?_|refine jH ?_|refine jI ?_|refine jJ ?_|refine jK ?_|refine jL ?_|refine jM (by assumption) ?_|refine jN (by assumption) rfl ?_|refine jO (by assumption) ?_|refine jP (by assumption) rfl ?_|refine jQ ?_|refine jR ?_|refine jS ?_|refine jT ?_|refine jU (by assumption) rfl ?_))
    refine h1.storeWh g1 (fun w2 O2 wv2 h2 k2 hO => ?_)
    (repeat (first|refine ja ?_|refine jb ?_|refine jc ?_|refine jd ?_|refine je ?_|refine jf ?_|refine jg ?_|refine jh ?_|refine ji ?_|refine jj ?_|refine jk ?_|refine jl ?_|refine jm ?_|refine jn ?_|refine jo ?_|refine jp ?_|refine jq ?_|refine jr ?_|refine js ?_|refine jt ?_|refine ju ?_|refine jv ?_|refine jw ?_|refine jx ?_|refine jy ?_|refine jz ?_|refine jA ?_|refine jB ?_|refine jC ?_|refine jD ?_|refine jE ?_|refine jF ?_|refine jG ?_|refine jH ?_|refine jI ?_|refine jJ ?_|refine jK ?_|refine jL ?_|refine jM (by assumption) ?_|refine jN (by assumption) rfl ?_|refine jO (by assumption) ?_|refine jP (by assumption) rfl ?_|refine jQ ?_|refine jR ?_|refine jS ?_|refine jT ?_|refine jU (by assumption) rfl ?_))
    exact ⟨t', _, O2, wv2, bad, news, rfl, h2, ⟨m1.1.trans k2 (fun b hb e => m1.2 b hb e), fun b hb e => m1.2 b hb (hO b hb e)⟩, hR⟩
  · intro K hK
    refine M.loop_i (σ := Nat) (fun k vals w' => ∃ leftv leftl t' s' O' news, vals = [leftv, vi (-1), .bool news, vi k] ∧ k ≤ s.whole.length ∧ TWR w' p q O' bk cv (.slice WA s.whole.length wcap) t' s' ∧ OMod w w' O O' ∧ GI w' (fun b => w.heap.size ≤ b ∧ ¬ O' b) leftv leftl ∧ SwI t s t' s' leftl news k ∧ SwN t t' s' leftl news) (fun k => s.whole.length - k) 0
      ⟨_, [], t, s, O, false, rfl, by omega, h, OMod.refl _ _, GC.nil _ _ _, ⟨⟨[], [], Ext.refl t⟩, CEq.refl _, wi, ri, rfl, rfl, rfl, fun c hc hw => .inr (by rw [List.drop_zero]; exact wi.who c hc hw), by simp, fun h => by cases h⟩, fun _ => ⟨rfl, fun c _ _ h => by simp at h⟩⟩ ?_
    rintro k vals w1 K2 ⟨leftv, leftl, t', s', O', news, rfl, hk, h1, m1, g1, hI, hN⟩ hK2 _
    simp only [List.getD_cons_zero, List.getD_cons_succ]
    obtain ⟨lab1, ow1, r1, vb1, vd1, bvs1, hT1⟩ := id h1
    have hB1 := hT1.wb.st
    have hwsz : s.whole.length ≤ s.sz := by unfold Wt.sz; omega
    have hszI := hI.sz
    have hwcl := wc_le s.cls
    by_cases hlt : k < s.whole.length
    · obtain ⟨iv, hiv⟩ : ∃ i, s.whole[k]? = some i := ⟨_, List.getElem?_eq_getElem hlt⟩
      have hdrop : s.whole.drop k = iv :: s.whole.drop (k + 1) := by
        rw [List.drop_eq_getElem_cons hlt]
        rw [List.getElem?_eq_getElem hlt] at hiv
        cases hiv; rfl
      have hwh := hI.wh
      have hrow1 : Row w1 (ow1 · = 4) WA (s.whole.map vi) := by
        obtain ⟨A', c', e, hr, _⟩ := GC.row2 hT1.wb.wh (by omega)
        simp only [Value.slice.injEq] at e
        rw [e.1, ← hwh]; exact hr
      (repeat (first|refine ja ?_|refine jb ?_|refine jc ?_|refine jd ?_|refine je ?_|refine jf ?_|refine jg ?_|refine jh ?_|refine ji ?_|refine jj ?_|refine jk ?_|refine jl ?_|refine jm ?_|refine jn ?_|refine jo ?_|refine jp ?_|refine jq ?_|refine jr ?_|refine js ?_|refine jt ?_|refine ju ?_|refine jv ?_|refine jw ?_|refine jx ?_|refine jy ?_|refine jz ?_|refine jA ?_|refine jB ?_|refine jC ?_|refine jD ?_|refine jE ?_|refine jF ?_|refine jG ?_|refine jH ?_|refine jI ?_|refine jJ ?_|refine jK ?_|refine jL ?_|refine jM (by assumption) ?_|refine jN (by assumption) rfl ?_|refine jO (by assumption) ?_|refine jP (by assumption) rfl ?_|refine jQ ?_|refine jR ?_|refine jS ?_|refine jT ?_|refine jU (by assumption) rfl ?_))
      have nxt : ∀ (leftv : Value) (leftl : List Int) (t2 : Tr) (s2 : Wt) (O2 : Nat → Prop) (news2 : Bool) (w2 : World), TWR w2 p q O2 bk cv (.slice WA s.whole.length wcap) t2 s2 → OMod w w2 O O2 → GI w2 (fun b => w.heap.size ≤ b ∧ ¬ O2 b) leftv leftl → SwI t s t2 s2 leftl news2 (k + 1) → SwN t t2 s2 leftl news2 →
          M.bin .add (vi k) (Value.int IntKind.i64 1) (fun t70 w => K2 [leftv, vi (-1), .bool news2, t70] w) w2 := by
        intro leftv leftl t2 s2 O2 news2 w2 h2 m2 g2 hI2 hN2
        (repeat (first|refine ja ?_|refine jb ?_|refine jc ?_|refine jd ?_|refine je ?_|refine jf ?_|refine jg ?_|refine jh ?_|refine ji ?_|refine jj ?_|refine jk ?_|refine jl ?_|refine jm ?_|refine jn ?_|refine jo ?_|refine jp ?_|refine jq ?_|refine jr ?_|refine js ?_|refine jt ?_|refine ju ?_|refine jv ?_|refine jw ?_|refine jx ?_|refine jy ?_|refine jz ?_|refine jA ?_|refine jB ?_|refine jC ?_|refine jD ?_|refine jE ?_|refine jF ?_|refine jG ?_|refine jH ?_|refine jI ?_|refine jJ ?_|refine jK ?_|refine jL ?_|refine jM (by assumption) ?_|refine jN (by assumption) rfl ?_|refine jO (by assumption) ?_|refine jP (by assumption) rfl ?_|refine jQ ?_|refine jR ?_|refine jS ?_|refine jT ?_|refine jU (by assumption) rfl ?_))
        exact hK2 (k + 1) _ _ (by omega) ⟨leftv, leftl, t2, s2, O2, news2, rfl, by omega, h2, m2, g2, hI2, hN2⟩
      refine M.share_j (fun vals w' => ∃ leftv leftl t2 s2 O2 news2, vals = [leftv, vi (-1), .bool news2] ∧ TWR w' p q O2 bk cv (.slice WA s.whole.length wcap) t2 s2 ∧ OMod w w' O O2 ∧ GI w' (fun b => w.heap.size ≤ b ∧ ¬ O2 b) leftv leftl ∧ SwI t s t2 s2 leftl news2 (k + 1) ∧ SwN t t2 s2 leftl news2) ?_ ?_
      · rintro vals w' ⟨leftv, leftl, t2, s2, O2, news2, rfl, h2, m2, g2, hI2, hN2⟩ _
        exact nxt leftv leftl t2 s2 O2 news2 w' h2 m2 g2 hI2 hN2
      · intro K3 hK3
        refine M.idxLV_i hrow1 rfl (by omega) (by omega) (x := iv) (by simpa using hiv) (fun bb oo hA hcc => ?_)
        (repeat (first|refine ja ?_|refine jb ?_|refine jc ?_|refine jd ?_|refine je ?_|refine jf ?_|refine jg ?_|refine jh ?_|refine ji ?_|refine jj ?_|refine jk ?_|refine jl ?_|refine jm ?_|refine jn ?_|refine jo ?_|refine jp ?_|refine jq ?_|refine jr ?_|refine js ?_|refine jt ?_|refine ju ?_|refine jv ?_|refine jw ?_|refine jx ?_|refine jy ?_|refine jz ?_|refine jA ?_|refine jB ?_|refine jC ?_|refine jD ?_|refine jE ?_|refine jF ?_|refine jG ?_|refine jH ?_|refine jI ?_|refine jJ ?_|refine jK ?_|refine jL ?_|refine jM (by assumption) ?_|refine jN (by assumption) rfl ?_|refine jO (by assumption) ?_|refine jP (by assumption) rfl ?_|refine jQ ?_|refine jR ?_|refine jS ?_|refine jT ?_|refine jU (by assumption) rfl ?_))
        refine hT1.wb.all_i _ ?_
        cases hgi : s'.get iv with
        | none =>
          (repeat (first|refine ja ?_|refine jb ?_|refine jc ?_|refine jd ?_|refine je ?_|refine jf ?_|refine jg ?_|refine jh ?_|refine ji ?_|refine jj ?_|refine jk ?_|refine jl ?_|refine jm ?_|refine jn ?_|refine jo ?_|refine jp ?_|refine jq ?_|refine jr ?_|refine js ?_|refine jt ?_|refine ju ?_|refine jv ?_|refine jw ?_|refine jx ?_|refine jy ?_|refine jz ?_|refine jA ?_|refine jB ?_|refine jC ?_|refine jD ?_|refine jE ?_|refine jF ?_|refine jG ?_|refine jH ?_|refine jI ?_|refine jJ ?_|refine jK ?_|refine jL ?_|refine jM (by assumption) ?_|refine jN (by assumption) rfl ?_|refine jO (by assumption) ?_|refine jP (by assumption) rfl ?_|refine jQ ?_|refine jR ?_|refine jS ?_|refine jT ?_|refine jU (by assumption) rfl ?_))
          refine hK3 _ _ ⟨leftv, leftl, t', s', O', news, rfl, h1, m1, g1, ⟨hI.ext, hI.ceq, hI.wi, hI.ri, hI.wh, hI.dn, hI.ev, fun c hc hw => ?_, by omega, hI.yes⟩, hN⟩
          rcases hI.lft c hc hw with e | e
          · exact .inl e
          · rw [hdrop] at e
            rcases List.mem_cons.1 e with e | e
            · rw [← e, hI.wi.get hc] at hgi; cases hgi
            · exact .inr e
        | some c =>
          obtain ⟨hc, hcn⟩ := get_some hgi
          subst hcn
          obtain ⟨ho1, hb1, hl1⟩ := hT1.wb.one _ hc
          simp only
          by_cases hcw : c.whole = true
          rotate_left
          · have hcw : c.whole = false := by simpa using hcw
            rw [hcw] at hb1
            (repeat (first|refine ja ?_|refine jb ?_|refine jc ?_|refine jd ?_|refine je ?_|refine jf ?_|refine jg ?_|refine jh ?_|refine ji ?_|refine jj ?_|refine jk ?_|refine jl ?_|refine jm ?_|refine jn ?_|refine jo ?_|refine jp ?_|refine jq ?_|refine jr ?_|refine js ?_|refine jt ?_|refine ju ?_|refine jv ?_|refine jw ?_|refine jx ?_|refine jy ?_|refine jz ?_|refine jA ?_|refine jB ?_|refine jC ?_|refine jD ?_|refine jE ?_|refine jF ?_|refine jG ?_|refine jH ?_|refine jI ?_|refine jJ ?_|refine jK ?_|refine jL ?_|refine jM (by assumption) ?_|refine jN (by assumption) rfl ?_|refine jO (by assumption) ?_|refine jP (by assumption) rfl ?_|refine jQ ?_|refine jR ?_|refine jS ?_|refine jT ?_|refine jU (by assumption) rfl ?_))
            refine hK3 _ _ ⟨leftv, leftl, t', s', O', news, rfl, h1, m1, g1, ⟨hI.ext, hI.ceq, hI.wi, hI.ri, hI.wh, hI.dn, hI.ev, fun d hd hw => ?_, by omega, hI.yes⟩, hN⟩
            rcases hI.lft d hd hw with e | e
            · exact .inl e
            · rw [hdrop] at e
              rcases List.mem_cons.1 e with e | e
              · have : d = c := uniq_n hI.wi.nod hd hc (by omega)
                subst this
                rw [hcw] at hw; cases hw
              · exact .inr e
          · rw [hcw] at hb1
            (repeat (first|refine ja ?_|refine jb ?_|refine jc ?_|refine jd ?_|refine je ?_|refine jf ?_|refine jg ?_|refine jh ?_|refine ji ?_|refine jj ?_|refine jk ?_|refine jl ?_|refine jm ?_|refine jn ?_|refine jo ?_|refine jp ?_|refine jq ?_|refine jr ?_|refine js ?_|refine jt ?_|refine ju ?_|refine jv ?_|refine jw ?_|refine jx ?_|refine jy ?_|refine jz ?_|refine jA ?_|refine jB ?_|refine jC ?_|refine jD ?_|refine jE ?_|refine jF ?_|refine jG ?_|refine jH ?_|refine jI ?_|refine jJ ?_|refine jK ?_|refine jL ?_|refine jM (by assumption) ?_|refine jN (by assumption) rfl ?_|refine jO (by assumption) ?_|refine jP (by assumption) rfl ?_|refine jQ ?_|refine jR ?_|refine jS ?_|refine jT ?_|refine jU (by assumption) rfl ?_))
            obtain ⟨n1, nb1, hx1⟩ := hI.ext
            have hct1 : 0 ≤ t'.count ∧ t'.count ≤ 1000000000000 := by
              have e1 := hx1.count
              have e2 := h1.fine.len.1
              rw [hx1.L, List.length_append, hx1.vars] at e2
              omega
            obtain ⟨c0, hc0m, hc0n, hc0p⟩ := hI.ceq.mem' hc
            have hcl1 : c.lits.length ≤ 1000000 := by rw [hc0p.length_eq]; exact hcl c0 hc0m
            have hrng := hI.wi.rng c hc
            have hbyl := hI.wi.byl
            refine M.call_i (wholly_ret h1 hgi hcl1 (by omega) (fun x hx => by have := hrng x hx; omega)) ?_; rintro v2 w2 ⟨t2, s2, O2, hW, h2, m2⟩
            obtain ⟨ok, more, c', rfl, hg2, hn2, hbad, hI2, hN2⟩ := hI.step h1.fine hc hcw hiv hW hct1.1 hct1.2
            have hN2' : ok = true → SwN t t2 s2 (leftl ++ if c'.whole then [(c.n : Int)] else []) (news || more) := fun e => hN2 e hN
            refine M.extract_i (v := .bool ok) rfl ?_
            refine M.extract_i (v := .bool more) rfl ?_
            refine M.or_i ?_
            have m02 := m1.trans m2
            have g2 : GI w2 (fun b => w.heap.size ≤ b ∧ ¬ O2 b) leftv leftl := GC.mono (GC.keep (GC.mono (L' := fun b => (w.heap.size ≤ b ∧ ¬ O' b) ∧ b < w1.heap.size) g1 (fun b hb e => ⟨e, hb⟩)) m2.1 (fun b _ e e2 => e.1.2 e2)) (fun b hb e => ⟨e.1.1, fun e2 => e.1.2 (m2.2 b e.2 e2)⟩)
            have hll2 : leftl.length ≤ 1000000000000 := by have := hI.sz; omega
            refine M.share_j (fun vals w' => ∃ leftv2, vals = [leftv2] ∧ TWR w' p q O2 bk cv (.slice WA s.whole.length wcap) t2 s2 ∧ OMod w w' O O2 ∧ GI w' (fun b => w.heap.size ≤ b ∧ ¬ O2 b) leftv2 (leftl ++ if c'.whole then [(c.n : Int)] else [])) ?_ ?_
            · rintro vals w3 ⟨leftv2, rfl, h3, m3, g3⟩ _
              simp only [List.getD_cons_zero, List.getD_cons_succ]
              cases ok with
              | true =>
                (repeat (first|refine ja ?_|refine jb ?_|refine jc ?_|refine jd ?_|refine je ?_|refine jf ?_|refine jg ?_|refine jh ?_|refine ji ?_|refine jj ?_|refine jk ?_|refine jl ?_|refine jm ?_|refine jn ?_|refine jo ?_|refine jp ?_|refine jq ?_|refine jr ?_|refine js ?_|refine jt ?_|refine ju ?_|refine jv ?_|refine jw ?_|refine jx ?_|refine jy ?_|refine jz ?_|refine jA ?_|refine jB ?_|refine jC ?_|refine jD ?_|refine jE ?_|refine jF ?_|refine jG ?_|refine jH ?_|refine jI ?_|refine jJ ?_|refine jK ?_|refine jL ?_|refine jM (by assumption) ?_|refine jN (by assumption) rfl ?_|refine jO (by assumption) ?_|refine jP (by assumption) rfl ?_|refine jQ ?_|refine jR ?_|refine jS ?_|refine jT ?_|refine jU (by assumption) rfl ?_))
                exact hK3 _ _ ⟨leftv2, _, t2, s2, O2, news || more, rfl, h3, m3, g3, hI2, hN2' rfl⟩
              | false =>
                obtain ⟨lab3, ow3, r3, vb3, vd3, bvs3, hT3⟩ := id h3
                have hB3 := hT3.wb.st
                (repeat (first|refine ja ?_|refine jb ?_|refine jc ?_|refine jd ?_|refine je ?_|refine jf ?_|refine jg ?_|refine jh ?_|refine ji ?_|refine jj ?_|refine jk ?_|refine jl ?_|refine jm ?_|refine jn ?_|refine jo ?_|refine jp ?_|refine jq ?_|refine jr ?_|refine js ?_|refine jt ?_|refine ju ?_|refine jv ?_|refine jw ?_|refine jx ?_|refine jy ?_|refine jz ?_|refine jA ?_|refine jB ?_|refine jC ?_|refine jD ?_|refine jE ?_|refine jF ?_|refine jG ?_|refine jH ?_|refine jI ?_|refine jJ ?_|refine jK ?_|refine jL ?_|refine jM (by assumption) ?_|refine jN (by assumption) rfl ?_|refine jO (by assumption) ?_|refine jP (by assumption) rfl ?_|refine jQ ?_|refine jR ?_|refine jS ?_|refine jT ?_|refine jU (by assumption) rfl ?_))
                have hrow3 : Row w3 (ow3 · = 4) WA (s.whole.map vi) := by
                  obtain ⟨A', c2, e, hr, _⟩ := GC.row2 hT3.wb.wh (by omega)
                  simp only [Value.slice.injEq] at e
                  rw [e.1, ← hI2.wh]; exact hr
                obtain ⟨A4, c4, e4, _, hwc4⟩ := GC.row2 hT3.wb.wh (by omega)
                simp only [Value.slice.injEq] at e4
                have hwc5 : s.whole.length ≤ wcap := by rw [e4.2.2, ← hI2.wh]; exact hwc4
                have ek : (k : Int) + 1 = ((k + 1 : Nat) : Int) := by omega
                rw [ek]
                refine M.slice_i (k + 1) s.whole.length wcap (sl3_l (by omega)) ?_
                have hrow4 := Row.tail (n := k + 1) hrow3 (c := wcap) (by rw [List.length_map]; exact hwc5)
                rw [← List.map_drop] at hrow4
                refine M.appendI_i (ys := s.whole.drop (k + 1)) (by rw [List.length_drop]) g3 hrow4 rfl (by
                  have := hI2.sz
                  rw [List.length_drop]
                  omega) (fun v4 w4 g4 k4 => ?_)
                refine hK _ _ ⟨v4, _, t2, s2, O2, c.n, news || more, rfl, h3.keep k4 (fun b _ e e2 => e2.2 e), ⟨m3.1.trans k4 (fun b hb e => by have := e.1; omega), m3.2⟩, GC.mono g4 (fun b hb e => by
                  rcases e with e | e
                  · exact e
                  · have q0 := m3.1.size
                    exact ⟨by omega, fun e2 => by have := h3.lt e2; omega⟩), hI2.fin (by omega) (bad := c.n) (.inr ⟨by omega, hbad rfl⟩)⟩
            · intro K4 hK4
              obtain ⟨lab2, ow2, r2, vb2, vd2, bvs2, hT2⟩ := id h2
              obtain ⟨ho2, hb2, hl2⟩ := hT2.wb.one _ (get_some hg2).1
              rw [hn2] at hb2
              cases hcw2 : c'.whole with
              | true =>
                rw [hcw2] at hb2
                (repeat (first|refine ja ?_|refine jb ?_|refine jc ?_|refine jd ?_|refine je ?_|refine jf ?_|refine jg ?_|refine jh ?_|refine ji ?_|refine jj ?_|refine jk ?_|refine jl ?_|refine jm ?_|refine jn ?_|refine jo ?_|refine jp ?_|refine jq ?_|refine jr ?_|refine js ?_|refine jt ?_|refine ju ?_|refine jv ?_|refine jw ?_|refine jx ?_|refine jy ?_|refine jz ?_|refine jA ?_|refine jB ?_|refine jC ?_|refine jD ?_|refine jE ?_|refine jF ?_|refine jG ?_|refine jH ?_|refine jI ?_|refine jJ ?_|refine jK ?_|refine jL ?_|refine jM (by assumption) ?_|refine jN (by assumption) rfl ?_|refine jO (by assumption) ?_|refine jP (by assumption) rfl ?_|refine jQ ?_|refine jR ?_|refine jS ?_|refine jT ?_|refine jU (by assumption) rfl ?_))
                refine M.buildSlice_i [vi c.n] (by kernel_rfl) (fun w3 b3 k3 s3 => ?_)
                refine M.append1_i (GC.keep g2 k3 (fun _ _ _ e => e)) (Row.of_blk' (D := fun _ => True) b3 trivial) rfl hll2 (fun v4 w4 g4 k4 => ?_)
                have h3 := h2.keepN k3
                have h4 := h3.keep k4 (fun b _ e e2 => e2.2 e)
                have q3 := k3.size
                exact hK4 _ _ ⟨v4, rfl, h4, ⟨(m02.1.trans k3 (fun _ _ e => e.elim)).trans k4 (fun b hb e => by have := e.1; omega), m02.2⟩, by
                  rw [if_pos hcw2]
                  exact GC.mono g4 (fun b hb e => by
                    rcases e with e | e
                    · exact e
                    · have q0 := m02.1.size
                      exact ⟨by omega, fun e2 => by have := h3.lt e2; omega⟩)⟩
              | false =>
                rw [hcw2] at hb2
                (repeat (first|refine ja ?_|refine jb ?_|refine jc ?_|refine jd ?_|refine je ?_|refine jf ?_|refine jg ?_|refine jh ?_|refine ji ?_|refine jj ?_|refine jk ?_|refine jl ?_|refine jm ?_|refine jn ?_|refine jo ?_|refine jp ?_|refine jq ?_|refine jr ?_|refine js ?_|refine jt ?_|refine ju ?_|refine jv ?_|refine jw ?_|refine jx ?_|refine jy ?_|refine jz ?_|refine jA ?_|refine jB ?_|refine jC ?_|refine jD ?_|refine jE ?_|refine jF ?_|refine jG ?_|refine jH ?_|refine jI ?_|refine jJ ?_|refine jK ?_|refine jL ?_|refine jM (by assumption) ?_|refine jN (by assumption) rfl ?_|refine jO (by assumption) ?_|refine jP (by assumption) rfl ?_|refine jQ ?_|refine jR ?_|refine jS ?_|refine jT ?_|refine jU (by assumption) rfl ?_))
                exact hK4 _ _ ⟨leftv, rfl, h2, m02, by rw [if_neg (by rw [hcw2]; simp), List.append_nil]; exact g2⟩
    · have e : k = s.whole.length := by omega
      subst e
      (repeat (first|refine ja ?_|refine jb ?_|refine jc ?_|refine jd ?_|refine je ?_|refine jf ?_|refine jg ?_|refine jh ?_|refine ji ?_|refine jj ?_|refine jk ?_|refine jl ?_|refine jm ?_|refine jn ?_|refine jo ?_|refine jp ?_|refine jq ?_|refine jr ?_|refine js ?_|refine jt ?_|refine ju ?_|refine jv ?_|refine jw ?_|refine jx ?_|refine jy ?_|refine jz ?_|refine jA ?_|refine jB ?_|refine jC ?_|refine jD ?_|refine jE ?_|refine jF ?_|refine jG ?_|refine jH ?_|refine jI ?_|refine jJ ?_|refine jK ?_|refine jL ?_|refine jM (by assumption) ?_|refine jN (by assumption) rfl ?_|refine jO (by assumption) ?_|refine jP (by assumption) rfl ?_|refine jQ ?_|refine jR ?_|refine jS ?_|refine jT ?_|refine jU (by assumption) rfl ?_))
      refine hK _ _ ⟨leftv, leftl, t', s', O', -1, news, rfl, h1, m1, g1, ?_⟩
      have := hI.fin (Nat.le_refl _) (bad := -1) (.inl ⟨rfl, rfl, hN⟩)
      simpa using this
end
end Go.Proofs.Ytnmbgfonlpjicaa
