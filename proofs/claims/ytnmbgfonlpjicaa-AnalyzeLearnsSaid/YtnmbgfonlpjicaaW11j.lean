import Derived.Test.YtnmbgfonlpjicaaW11s
namespace Go.Proofs.Ytnmbgfonlpjicaa
open Go.Mw Go.MapKept
set_option linter.unusedVariables false
set_option linter.unusedSimpArgs false
set_option maxRecDepth 100000
attribute [local irreducible] M.val M.unit M.next M.pick M.new M.nilCheck M.load1 M.loadA M.store M.fieldAddr M.indexSl M.indexArr M.slice M.makeSlice M.buildSlice M.len M.lenS M.cap M.append M.extract M.conv M.not M.neg M.bin M.shift M.eqB M.eqNil M.call M.callv M.gd M.share M.cond M.loop M.draw pureW readW Ret
/-! (*breakwater/watch.Watch).Run: function 12 -/
def sh12 (x0 x1 : Value) (R : Kt) (w : World) : Prop :=
  M.eqNil 0 false x0 (fun t13 w =>
  M.gd t13 false (fun k w => k x1 w) (fun t15 w =>
  M.gd t13 false (fun k w => M.eqNil 0 false t15 k w) (fun t16 w =>
  M.pick t13 (Value.bool true) t16 (fun t17 w =>
  M.cond t17
  (R (.tuple #[(Value.int IntKind.i64 (-1)), (Value.bool true)]) w)
  (M.call Try.prog 30 #[x0, x1] (fun t20 w =>
  M.loop [] (fun s1 K1 w => ∀ _ : List Value,
  M.call Try.prog 31 #[x0, x1] (fun t24 w =>
  M.extract 0 t24 (fun t25 w =>
  M.extract 1 t24 (fun t26 w =>
  M.bin .geq t25 (Value.int IntKind.i64 0) (fun t28 w =>
  M.cond t28
  (R (.tuple #[t25, (Value.bool false)]) w)
  (M.call Try.prog 32 #[x1] (fun t31 w =>
  M.nilCheck x0 (fun t33 w =>
  M.fieldAddr 5 t33 (fun t34 w =>
  M.load1 t34 (fun t35 w =>
  M.len t35 (fun t36 w =>
  M.loop [t26, t36] (fun s2 K2 w => ∀ _ : List Value,
  M.len t31 (fun t39 w =>
  M.bin .lss (s2.getD 1 undef) t39 (fun t40 w =>
  M.cond t40
  (M.indexSl 1 t31 (s2.getD 1 undef) (fun t45 w =>
  M.load1 t45 (fun t46 w =>
  M.call Try.prog 28 #[t46] (fun t50 w =>
  M.call Try.prog 33 #[x0, x1, t50] (fun t51 w =>
  M.bin .geq t51 (Value.int IntKind.i64 0) (fun t53 w =>
  M.cond t53
  (R (.tuple #[t51, (Value.bool false)]) w)
  (M.draw (fun w =>
  M.nilCheck x0 (fun t57 w =>
  M.fieldAddr 5 t57 (fun t58 w =>
  M.load1 t58 (fun t59 w =>
  M.call Try.prog 34 #[x1, (s2.getD 1 undef)] (fun t63 w =>
  ((M.load1 t58 (fun v' _ => v' = t59) w) ∧ pureW Try.prog (Instr.build 72 #[(0, t46), (1, t63)]) (fun t64 w =>
  M.buildSlice 72 2 #[.int .i64 0, .int .i64 0] 1 [(0, t64)] (fun t65 w =>
  ((M.load1 t58 (fun v' _ => v' = t59) w) ∧ M.append 72 2 16 #[.int .i64 0, .int .i64 0] t59 t65 (fun t66 w =>
  M.nilCheck x0 (fun t67 w =>
  M.fieldAddr 5 t67 (fun t68 w =>
  M.store 1 t68 t66 (fun _ w =>
  M.bin .add (s2.getD 1 undef) (Value.int IntKind.i64 1) (fun t42 w =>
  K2 [(Value.bool true), t42] w) w) w) w) w) w)) w) w)) w) w) w) w) w)) w) w) w) w) w)
  (M.draw (fun w =>
  M.not (s2.getD 0 undef) (fun t70 w =>
  M.gd t70 true (fun k w => k x0 w) (fun t72 w =>
  M.gd t70 true (fun k w => M.nilCheck t72 k w) (fun t73 w =>
  M.gd t70 true (fun k w => M.fieldAddr 5 t73 k w) (fun t74 w =>
  M.gd t70 true (fun k w => M.load1 t74 k w) (fun t75 w =>
  M.gd t70 true (fun k w => M.len t75 k w) (fun t76 w =>
  M.gd t70 true (fun k w => k x1 w) (fun t77 w =>
  M.gd t70 true (fun k w => M.call Try.prog 32 #[t77] k w) (fun t78 w =>
  ((M.gd t70 true (fun k w => M.load1 t74 k w) (fun v' _ => v' = t75) w) ∧ M.gd t70 true (fun k w => M.len t78 k w) (fun t79 w =>
  M.gd t70 true (fun k w => M.bin .eql t76 t79 k w) (fun t80 w =>
  M.pick t70 t80 (Value.bool false) (fun t81 w =>
  M.cond t81
  (R (.tuple #[(Value.int IntKind.i64 (-1)), (Value.bool true)]) w)
  (K1 [] w)) w) w) w)) w) w) w) w) w) w) w) w) w)) w) w) w) w) w) w) w) w)) w) w) w) w) w) w)) w) w) w) w
theorem ok12 (x0 x1 : Value) (R : Kt) (w : World) (h : sh12 x0 x1 R w) : Ret Try.prog 12 #[x0, x1] w R :=
  ret_mk <| calls_of_comp mixed (c := Try.f12.body.getD .skip) (args := [x0, x1]) (rs := [(ResultVar.tmp 4), (ResultVar.tmp 5)]) (Ann.seq Ann.text (Ann.seq (Ann.seq Ann.text (Ann.cond (Ann.seq Ann.text Ann.leaf) Ann.leaf)) (Ann.seq Ann.text (Ann.block (Ann.loop [] [4, 5, 6, 7, 8, 9, 10, 11, 21, 22, 23, 24, 25, 26, 27, 28, 29, 30, 31, 32, 33, 34, 35, 36, 37, 38, 39, 40, 41, 42, 43, 44, 45, 46, 47, 48, 49, 50, 51, 52, 53, 54, 55, 56, 57, 58, 59, 60, 61, 62, 63, 64, 65, 66, 67, 68, 69, 70, 71, 72, 73, 74, 75, 76, 77, 78, 79, 80, 81] (Ann.block (Ann.seq Ann.text (Ann.seq (Ann.seq Ann.text (Ann.cond (Ann.seq Ann.text Ann.leaf) Ann.leaf)) (Ann.seq Ann.text (Ann.seq (Ann.seq Ann.text (Ann.block (Ann.loop [7, 9] [4, 5, 10, 11, 37, 38, 39, 40, 41, 42, 43, 44, 45, 46, 47, 48, 49, 50, 51, 52, 53, 54, 55, 56, 57, 58, 59, 60, 61, 62, 63, 64, 65, 66, 67, 68] (Ann.seq (Ann.seq Ann.text (Ann.cond Ann.leaf Ann.leaf)) (Ann.seq (Ann.block (Ann.seq Ann.text (Ann.seq (Ann.seq Ann.text (Ann.seq Ann.text (Ann.cond (Ann.seq Ann.text Ann.leaf) Ann.leaf))) (Ann.seq (Ann.draw (Sch.take 0 (Sch.take 1 (Sch.take 2 (Sch.take 3 (Sch.take 4 (Sch.take 5 (Sch.take 6 (Sch.take 7 (Sch.one 8 (Sch.take 9 (Sch.one 10 (Sch.one 11 (Sch.take 12 (Sch.take 13 (Sch.one 14 Sch.done)))))))))))))))) Ann.text)))) Ann.text))))) (Ann.seq (Ann.draw (Sch.take 0 (Sch.take 1 (Sch.take 2 (Sch.take 3 (Sch.take 4 (Sch.take 5 (Sch.take 6 (Sch.take 7 (Sch.take 8 (Sch.one 9 (Sch.take 10 (Sch.take 11 (Sch.take 12 Sch.done)))))))))))))) (Ann.cond (Ann.seq Ann.text Ann.leaf) Ann.leaf))))))))))))
    Try.func12 (by kernel_rfl) (by kernel_rfl)
    (Eq.mp (by kernel_rfl) h)

section
variable {w w1 : World} {p q r : Nat} {lab ow bk : Nat → Nat} {cv : Nat → Value} {wv : Value} {t : Tr} {s : Wt} {vb vw1 vd : Value} {bvs : List Value} {O : Nat → Prop}
theorem BI.ext {t t' : Tr} {new : List Ent} {nb : List Int} (h : Ext t t' new nb) (bi : ∀ b ∈ t.born, b ≤ t.count) : ∀ b ∈ t'.born, b ≤ t'.count := by
  intro b hb
  rw [h.born] at hb
  have := h.count
  rcases List.mem_append.1 hb with e | e
  · have := bi b e; omega
  · exact (h.nb b e).2
theorem cl_len {a b : List Wc} (h : CEq a b) {n : Nat} (hl : ∀ c ∈ a, c.lits.length ≤ n) : ∀ c ∈ b, c.lits.length ≤ n := by
  intro c hc
  obtain ⟨d, h1, _, h2⟩ := h.mem' hc
  rw [h2.length_eq]; exact hl d h1
theorem run_nilw (v : Value) (w : World) : Ret Try.prog 12 #[nilp, v] w (fun v w' => v = .tuple #[vi (-1), .bool true] ∧ Keep w w' No) := by
  refine ok12 _ _ _ _ ?_
  unfold sh12
  (repeat (first|refine ja ?_|refine jb ?_|refine jc ?_|refine jd ?_|refine je ?_|refine jf ?_|refine jg ?_|refine jh ?_|refine ji ?_|refine jj ?_|refine jk ?_|refine jl ?_|refine jm ?_|refine jn ?_|refine jo ?_|refine jp ?_|refine jq ?_|refine jr ?_|refine js ?_|refine jt ?_|refine ju ?_|refine jv ?_|refine jw ?_|refine jx ?_|refine jy ?_|refine jz ?_|refine jA ?_|refine jB ?_|refine jC ?_|refine jD ?_|refine jE ?_|refine jF ?_|refine jG ?_|refine jH ?_|refine jI ?_|refine jJ ?_|refine jK ?_|refine jL ?_|refine jM (by assumption) ?_|refine jN (by assumption) rfl ?_|refine jO (by assumption) ?_|refine jP (by assumption) rfl ?_|refine jQ ?_|refine jR ?_|refine jS ?_|refine jT ?_|refine jU (by assumption) rfl ?_))
  exact ⟨rfl, Keep.refl _ _⟩
theorem run_nilt (q : Nat) (w : World) : Ret Try.prog 12 #[ptr q, nilp] w (fun v w' => v = .tuple #[vi (-1), .bool true] ∧ Keep w w' No) := by
  refine ok12 _ _ _ _ ?_
  unfold sh12
  (repeat (first|refine ja ?_|refine jb ?_|refine jc ?_|refine jd ?_|refine je ?_|refine jf ?_|refine jg ?_|refine jh ?_|refine ji ?_|refine jj ?_|refine jk ?_|refine jl ?_|refine jm ?_|refine jn ?_|refine jo ?_|refine jp ?_|refine jq ?_|refine jr ?_|refine js ?_|refine jt ?_|refine ju ?_|refine jv ?_|refine jw ?_|refine jx ?_|refine jy ?_|refine jz ?_|refine jA ?_|refine jB ?_|refine jC ?_|refine jD ?_|refine jE ?_|refine jF ?_|refine jG ?_|refine jH ?_|refine jI ?_|refine jJ ?_|refine jK ?_|refine jL ?_|refine jM (by assumption) ?_|refine jN (by assumption) rfl ?_|refine jO (by assumption) ?_|refine jP (by assumption) rfl ?_|refine jQ ?_|refine jR ?_|refine jS ?_|refine jT ?_|refine jU (by assumption) rfl ?_))
  exact ⟨rfl, Keep.refl _ _⟩
set_option maxHeartbeats 4000000 in
theorem run_ret (h : TWR w p q O bk cv wv t s) (wi : WI t s X0) (ri : RI t s.cls) (bi : ∀ b ∈ t.born, b ≤ t.count) (hz : s.sz + (2 * t.vars + 2) * s.cls.length ≤ 400000000) (hcl : ∀ c ∈ s.cls, c.lits.length ≤ 1000000) (hc0 : 0 ≤ t.count) (hcc : t.count ≤ 500000000000) :
    Ret Try.prog 12 #[ptr q, ptr p] w (fun v w' => ∃ t' s' O' wv' i ok, v = .tuple #[vi i, .bool ok] ∧ TWR w' p q O' bk cv wv' t' s' ∧ OMod w w' O O' ∧ RunR t s t' s' i ok) := by
  refine ok12 _ _ _ _ ?_
  unfold sh12
  (repeat (first|refine ja ?_|refine jb ?_|refine jc ?_|refine jd ?_|refine je ?_|refine jf ?_|refine jg ?_|refine jh ?_|refine ji ?_|refine jj ?_|refine jk ?_|refine jl ?_|refine jm ?_|refine jn ?_|refine jo ?_|refine jp ?_|refine jq ?_|refine jr ?_|refine js ?_|refine jt ?_|refine ju ?_|refine jv ?_|refine jw ?_|refine jx ?_|refine jy ?_|refine jz ?_|refine jA ?_|refine jB ?_|refine jC ?_|refine jD ?_|refine jE ?_|refine jF ?_|refine jG ?_|refine jH ?_|refine jI ?_|refine jJ ?_|refine jK ?_|refine jL ?_|refine jM (by assumption) ?_|refine jN (by assumption) rfl ?_|refine jO (by assumption) ?_|refine jP (by assumption) rfl ?_|refine jQ ?_|refine jR ?_|refine jS ?_|refine jT ?_|refine jU (by assumption) rfl ?_))
  refine M.call_i (begin_ret h) ?_; rintro _ w1 ⟨rfl, O1, n1, hn1, h1, m1, hm1⟩
  have wi1 := wi.cut (n := n1)
  have fu1 : Full t { s with done := s.done.take n1 } := Full.cut hm1
  have hrun0 : RuI t s t { s with done := s.done.take n1 } := ⟨⟨[], [], Ext.refl t⟩, CEq.refl _, wi1, ri, rfl, fu1⟩
  have hsz1 : Wt.sz { s with done := s.done.take n1 } = s.sz := rfl
  refine M.loop_i (σ := Nat) (fun m vals w' => vals = [] ∧ ∃ t' s' O' wv', TWR w' p q O' bk cv wv' t' s' ∧ OMod w w' O O' ∧ RuI t s t' s' ∧ s'.sz ≤ s.sz + (t'.L.length + s'.done.length) * s.cls.length ∧ m = 2 * t.vars - (t'.L.length + s'.done.length)) (fun m => m) _
    ⟨rfl, t, _, O1, wv, h1, m1, hrun0, by rw [hsz1]; exact Nat.le_add_right _ _, rfl⟩ ?_
  rintro m vals w2 K ⟨rfl, t2, s2, O2, wv2, h2, m2, hR, hs2, rfl⟩ hK _
  have hf2 := h2.fine
  obtain ⟨new2, nb2, hx2⟩ := hR.ext
  have hl2 := hf2.len
  have hfl2 := hR.full.le
  have hv2 : t2.vars = t.vars := hx2.vars
  have hcl2 : s2.cls.length = s.cls.length := hR.ceq.1
  have hct2 : t2.count + t2.vars ≤ 1000000000000 ∧ 0 ≤ t2.count ∧ t2.count ≤ t.count + t2.L.length := by
    have e1 := hx2.count
    have e2 : t2.L.length = t.L.length + new2.length := by rw [hx2.L, List.length_append]
    omega
  have hmul : (t2.L.length + s2.done.length) * s.cls.length ≤ (2 * t.vars) * s.cls.length := Nat.mul_le_mul_right _ (by omega)
  have hmul2 : (2 * t.vars + 2) * s.cls.length = (2 * t.vars) * s.cls.length + 2 * s.cls.length := Nat.add_mul _ _ _
  have hmul1 : (2 * t.vars + 1) * s.cls.length = (2 * t.vars) * s.cls.length + s.cls.length := by rw [Nat.add_mul, Nat.one_mul]
  refine M.call_i (sweep_ret h2 hR.wi hR.ri (by omega) (cl_len hR.ceq hcl) hct2.2.1 hct2.1) ?_; rintro _ w3 ⟨t3, s3, O3, wv3, bad, news, rfl, h3, m3, hS⟩
  obtain ⟨new3, nb3, hx3⟩ := hS.ext
  have hf3 := h3.fine
  have hx03 := hx2.trans hx3
  have hcq3 := hR.ceq.trans hS.ceq
  have hev3 : s3.ever = s.ever := by rw [hS.ev, hR.ev]
  have m03 := m2.trans m3
  have hfull3 : Full t3 s3 := by
    have := hR.full.ext hx3
    intro j hj
    rw [hS.dn] at hj
    obtain ⟨e, b, g1, g2, g3⟩ := this j hj
    exact ⟨e, b, g1, g2, by rw [hS.dn]; exact g3⟩
  have hsz3 : s3.sz ≤ s.sz + (t2.L.length + s2.done.length) * s.cls.length + s.cls.length := by
    have := hS.sz
    rw [hcl2] at this
    omega
  have hL23 : t2.L.length ≤ t3.L.length := by rw [hx3.L, List.length_append]; omega
  have hdn3 : s3.done.length = s2.done.length := by rw [hS.dn]
  refine M.extract_i (v := vi bad) rfl ?_
  refine M.extract_i (v := .bool news) rfl ?_
  rcases hS.out with ⟨rfl, hno, hyes⟩ | ⟨hb0, hbad⟩
  rotate_left
  · (repeat (first|refine ja ?_|refine jb ?_|refine jc ?_|refine jd ?_|refine je ?_|refine jf ?_|refine jg ?_|refine jh ?_|refine ji ?_|refine jj ?_|refine jk ?_|refine jl ?_|refine jm ?_|refine jn ?_|refine jo ?_|refine jp ?_|refine jq ?_|refine jr ?_|refine js ?_|refine jt ?_|refine ju ?_|refine jv ?_|refine jw ?_|refine jx ?_|refine jy ?_|refine jz ?_|refine jA ?_|refine jB ?_|refine jC ?_|refine jD ?_|refine jE ?_|refine jF ?_|refine jG ?_|refine jH ?_|refine jI ?_|refine jJ ?_|refine jK ?_|refine jL ?_|refine jM (by assumption) ?_|refine jN (by assumption) rfl ?_|refine jO (by assumption) ?_|refine jP (by assumption) rfl ?_|refine jQ ?_|refine jR ?_|refine jS ?_|refine jT ?_|refine jU (by assumption) rfl ?_))
    exact ⟨t3, s3, O3, wv3, bad, false, rfl, h3, m03, ⟨⟨_, _, hx03⟩, hcq3, hS.wi, hS.ri, hev3, by omega, .inr ⟨rfl, hbad⟩⟩⟩
  (repeat (first|refine ja ?_|refine jb ?_|refine jc ?_|refine jd ?_|refine je ?_|refine jf ?_|refine jg ?_|refine jh ?_|refine ji ?_|refine jj ?_|refine jk ?_|refine jl ?_|refine jm ?_|refine jn ?_|refine jo ?_|refine jp ?_|refine jq ?_|refine jr ?_|refine js ?_|refine jt ?_|refine ju ?_|refine jv ?_|refine jw ?_|refine jx ?_|refine jy ?_|refine jz ?_|refine jA ?_|refine jB ?_|refine jC ?_|refine jD ?_|refine jE ?_|refine jF ?_|refine jG ?_|refine jH ?_|refine jI ?_|refine jJ ?_|refine jK ?_|refine jL ?_|refine jM (by assumption) ?_|refine jN (by assumption) rfl ?_|refine jO (by assumption) ?_|refine jP (by assumption) rfl ?_|refine jQ ?_|refine jR ?_|refine jS ?_|refine jT ?_|refine jU (by assumption) rfl ?_))
  refine M.call_i (lits_tw h3) ?_; rintro lv w4 ⟨g4, k4⟩
  have h4 := h3.keepN k4
  have m04 := m03.trans (OMod.of k4)
  obtain ⟨LA, lcap, rfl, lrow, _⟩ := GI.lv g4
  have lrow := lrow.mono (D' := fun b => ¬ O3 b ∧ b < w4.heap.size) (fun b hb e => ⟨fun e2 => by
    have := h3.lt e2
    have e : w3.heap.size ≤ b := e
    omega, hb⟩)
  obtain ⟨lab, ow, r, vb, vd, bvs, hT⟩ := id h4
  have hB := hT.wb.st
  obtain ⟨DA, dcap, hvd, _, _⟩ := GC.row2 hT.wb.dn (by omega)
  subst hvd
  (repeat (first|refine ja ?_|refine jb ?_|refine jc ?_|refine jd ?_|refine je ?_|refine jf ?_|refine jg ?_|refine jh ?_|refine ji ?_|refine jj ?_|refine jk ?_|refine jl ?_|refine jm ?_|refine jn ?_|refine jo ?_|refine jp ?_|refine jq ?_|refine jr ?_|refine js ?_|refine jt ?_|refine ju ?_|refine jv ?_|refine jw ?_|refine jx ?_|refine jy ?_|refine jz ?_|refine jA ?_|refine jB ?_|refine jC ?_|refine jD ?_|refine jE ?_|refine jF ?_|refine jG ?_|refine jH ?_|refine jI ?_|refine jJ ?_|refine jK ?_|refine jL ?_|refine jM (by assumption) ?_|refine jN (by assumption) rfl ?_|refine jO (by assumption) ?_|refine jP (by assumption) rfl ?_|refine jQ ?_|refine jR ?_|refine jS ?_|refine jT ?_|refine jU (by assumption) rfl ?_))
  refine M.loop_i (σ := Nat) (fun k vals w' => ∃ (t5 : Tr) (s5 : Wt) (O5 : Nat → Prop) (wv5 : Value) (nw : Bool) (n : Nat), vals = [.bool nw, vi n] ∧ k = 2 * t.vars - n ∧ n = s5.done.length ∧ TWR w' p q O5 bk cv wv5 t5 s5 ∧ OMod w4 w' O3 O5 ∧ (∃ new nb, Ext t3 t5 new nb) ∧ CEq s3.cls s5.cls ∧ WI t5 s5 X0 ∧ RI t5 s5.cls ∧ s5.ever = s3.ever ∧ Full t5 s5 ∧ s5.sz ≤ s3.sz ∧ ((nw = news ∧ t5 = t3 ∧ s5 = s3) ∨ (nw = true ∧ s3.done.length < n))) (fun k => k) _
    ⟨t3, s3, O3, wv3, news, s3.done.length, rfl, rfl, rfl, h4, OMod.refl _ _, ⟨[], [], Ext.refl _⟩, CEq.refl _, hS.wi, hS.ri, rfl, hfull3, Nat.le_refl _, .inl ⟨rfl, rfl, rfl⟩⟩ ?_
  rintro k vals w5 K2 ⟨t5, s5, O5, wv5, nw, n, rfl, rfl, rfl, h5, m5, ⟨new5, nb5, hx5⟩, hcq5, wi5, ri5, hev5, hfu5, hsz5, hor⟩ hK2 _
  simp only [List.getD_cons_zero, List.getD_cons_succ]
  have hf5 := h5.fine
  have hl5 := hf5.len
  have hfl5 := hfu5.le
  have hv5 : t5.vars = t.vars := by rw [hx5.vars, hx3.vars, hv2]
  have hL35 : t3.L.length ≤ t5.L.length := by rw [hx5.L, List.length_append]; omega
  have hct5 : t5.count + t5.vars ≤ 1000000000000 ∧ 0 ≤ t5.count := by
    have e1 := (hx03.trans hx5).count
    have e2 : t5.L.length = t.L.length + ((new2 ++ new3) ++ new5).length := by rw [(hx03.trans hx5).L, List.length_append]
    omega
  have hll : (t3.L.map (·.lit)).length = t3.L.length := by simp
  have m05 := m04.trans m5
  by_cases hlt : s5.done.length < t3.L.length
  · obtain ⟨e0, he⟩ : ∃ e, t3.L[s5.done.length]? = some e := ⟨_, List.getElem?_eq_getElem hlt⟩
    have he5 : t5.L[s5.done.length]? = some e0 := by rw [hx5.L, List.getElem?_append_left hlt]; exact he
    have hem := hf5.mem (List.mem_of_getElem? he5)
    have hnn := notOf_nn hem.1
    have hltn : notOf e0.lit < 2 * t5.vars := notOf_lt hem.1 (by omega)
    have lrow5 := lrow.keep m5.1 (fun b _ e e2 => e.1 e2)
    (repeat (first|refine ja ?_|refine jb ?_|refine jc ?_|refine jd ?_|refine je ?_|refine jf ?_|refine jg ?_|refine jh ?_|refine ji ?_|refine jj ?_|refine jk ?_|refine jl ?_|refine jm ?_|refine jn ?_|refine jo ?_|refine jp ?_|refine jq ?_|refine jr ?_|refine js ?_|refine jt ?_|refine ju ?_|refine jv ?_|refine jw ?_|refine jx ?_|refine jy ?_|refine jz ?_|refine jA ?_|refine jB ?_|refine jC ?_|refine jD ?_|refine jE ?_|refine jF ?_|refine jG ?_|refine jH ?_|refine jI ?_|refine jJ ?_|refine jK ?_|refine jL ?_|refine jM (by assumption) ?_|refine jN (by assumption) rfl ?_|refine jO (by assumption) ?_|refine jP (by assumption) rfl ?_|refine jQ ?_|refine jR ?_|refine jS ?_|refine jT ?_|refine jU (by assumption) rfl ?_))
    refine M.idxLV_i lrow5 rfl (by omega) (by rw [hll]; omega) (x := e0.lit) (by simp [he]) (fun bb oo hA hcc => ?_)
    (repeat (first|refine ja ?_|refine jb ?_|refine jc ?_|refine jd ?_|refine je ?_|refine jf ?_|refine jg ?_|refine jh ?_|refine ji ?_|refine jj ?_|refine jk ?_|refine jl ?_|refine jm ?_|refine jn ?_|refine jo ?_|refine jp ?_|refine jq ?_|refine jr ?_|refine js ?_|refine jt ?_|refine ju ?_|refine jv ?_|refine jw ?_|refine jx ?_|refine jy ?_|refine jz ?_|refine jA ?_|refine jB ?_|refine jC ?_|refine jD ?_|refine jE ?_|refine jF ?_|refine jG ?_|refine jH ?_|refine jI ?_|refine jJ ?_|refine jK ?_|refine jL ?_|refine jM (by assumption) ?_|refine jN (by assumption) rfl ?_|refine jO (by assumption) ?_|refine jP (by assumption) rfl ?_|refine jQ ?_|refine jR ?_|refine jS ?_|refine jT ?_|refine jU (by assumption) rfl ?_))
    refine M.call_i (not_ret (l := e0.lit) ⟨by omega, by omega⟩ w5) ?_; rintro _ w6 ⟨rfl, k6⟩
    have h6 := h5.keepN k6
    refine M.call_i (fell_ret h6 wi5 ri5 (x := notOf e0.lit) (e0 := e0) ⟨hnn.1, hltn⟩ ⟨List.mem_of_getElem? he5, hnn.2.2.2.symm⟩ (by omega) (cl_len (hcq3.trans hcq5) hcl) hct5.2 hct5.1) ?_; rintro _ w7 ⟨t7, s7, O7, wv7, bad, rfl, h7, m7, hF⟩
    obtain ⟨new7, nb7, hx7⟩ := hF.ext
    have m57 := (OMod.of (O := O5) k6).trans m7
    rcases hF.out with ⟨rfl, hpro⟩ | ⟨hb0, hbad⟩
    rotate_left
    · (repeat (first|refine ja ?_|refine jb ?_|refine jc ?_|refine jd ?_|refine je ?_|refine jf ?_|refine jg ?_|refine jh ?_|refine ji ?_|refine jj ?_|refine jk ?_|refine jl ?_|refine jm ?_|refine jn ?_|refine jo ?_|refine jp ?_|refine jq ?_|refine jr ?_|refine js ?_|refine jt ?_|refine ju ?_|refine jv ?_|refine jw ?_|refine jx ?_|refine jy ?_|refine jz ?_|refine jA ?_|refine jB ?_|refine jC ?_|refine jD ?_|refine jE ?_|refine jF ?_|refine jG ?_|refine jH ?_|refine jI ?_|refine jJ ?_|refine jK ?_|refine jL ?_|refine jM (by assumption) ?_|refine jN (by assumption) rfl ?_|refine jO (by assumption) ?_|refine jP (by assumption) rfl ?_|refine jQ ?_|refine jR ?_|refine jS ?_|refine jT ?_|refine jU (by assumption) rfl ?_))
      have hszf := hF.sz
      exact ⟨t7, s7, O7, wv7, bad, false, rfl, h7, m05.trans m57, ⟨⟨_, _, (hx03.trans hx5).trans hx7⟩, (hcq3.trans hcq5).trans hF.ceq, hF.wi, hF.ri, by rw [hF.ev, hev5, hev3], by omega, .inr ⟨rfl, hbad⟩⟩⟩
    have hf7 := h7.fine
    have hl7 := hf7.len
    have he7 : t7.L[s5.done.length]? = some e0 := by rw [hx7.L, List.getElem?_append_left (by omega)]; exact he5
    have hn7 := (List.getElem?_eq_some_iff.1 he7).1
    obtain ⟨b0, hb7⟩ : ∃ b, t7.born[s5.done.length]? = some b := ⟨_, List.getElem?_eq_getElem (by omega)⟩
    have hdn7 : s7.done.length = s5.done.length := by rw [hF.dn]
    have hfu7 : Full t7 s7 := by
      have := hfu5.ext hx7
      intro j hj
      rw [hF.dn] at hj
      obtain ⟨e, b, g1, g2, g3⟩ := this j hj
      exact ⟨e, b, g1, g2, by rw [hF.dn]; exact g3⟩
    have bi7 := BI.ext ((hx03.trans hx5).trans hx7) bi
    obtain ⟨wi8, fu8⟩ := hF.wi.more hf7 hfu7 (by rw [hdn7]; exact he7) (by rw [hdn7]; exact hb7) (bi7 b0 (List.mem_of_getElem? hb7)) hnn.1 hnn.2.2.2.symm hpro
    (repeat (first|refine ja ?_|refine jb ?_|refine jc ?_|refine jd ?_|refine je ?_|refine jf ?_|refine jg ?_|refine jh ?_|refine ji ?_|refine jj ?_|refine jk ?_|refine jl ?_|refine jm ?_|refine jn ?_|refine jo ?_|refine jp ?_|refine jq ?_|refine jr ?_|refine js ?_|refine jt ?_|refine ju ?_|refine jv ?_|refine jw ?_|refine jx ?_|refine jy ?_|refine jz ?_|refine jA ?_|refine jB ?_|refine jC ?_|refine jD ?_|refine jE ?_|refine jF ?_|refine jG ?_|refine jH ?_|refine jI ?_|refine jJ ?_|refine jK ?_|refine jL ?_|refine jM (by assumption) ?_|refine jN (by assumption) rfl ?_|refine jO (by assumption) ?_|refine jP (by assumption) rfl ?_|refine jQ ?_|refine jR ?_|refine jS ?_|refine jT ?_|refine jU (by assumption) rfl ?_))
    have kd := Keep.drew w7 No
    have h8 := h7.keepN kd
    have m58 := m57.trans (OMod.of kd)
    generalize w7.drew = w8 at *
    obtain ⟨lab8, ow8, r8, vb8, vd8, bvs8, hT8⟩ := id h8
    have hB8 := hT8.wb.st
    have hq8 := hT8.wb.oq
    (repeat (first|refine ja ?_|refine jb ?_|refine jc ?_|refine jd ?_|refine je ?_|refine jf ?_|refine jg ?_|refine jh ?_|refine ji ?_|refine jj ?_|refine jk ?_|refine jl ?_|refine jm ?_|refine jn ?_|refine jo ?_|refine jp ?_|refine jq ?_|refine jr ?_|refine js ?_|refine jt ?_|refine ju ?_|refine jv ?_|refine jw ?_|refine jx ?_|refine jy ?_|refine jz ?_|refine jA ?_|refine jB ?_|refine jC ?_|refine jD ?_|refine jE ?_|refine jF ?_|refine jG ?_|refine jH ?_|refine jI ?_|refine jJ ?_|refine jK ?_|refine jL ?_|refine jM (by assumption) ?_|refine jN (by assumption) rfl ?_|refine jO (by assumption) ?_|refine jP (by assumption) rfl ?_|refine jQ ?_|refine jR ?_|refine jS ?_|refine jT ?_|refine jU (by assumption) rfl ?_))
    refine M.call_i (born_tw h8 s5.done.length) ?_; rintro _ w9 ⟨rfl, k9⟩
    have hb0' : t7.bornAt s5.done.length = b0 := by
      unfold Tr.bornAt
      rw [if_neg (by omega), Int.toNat_natCast, hb7]
    rw [hb0']
    have hB9 := hB8.keep k9 (fun e => e)
    (repeat (first|refine ja ?_|refine jb ?_|refine jc ?_|refine jd ?_|refine je ?_|refine jf ?_|refine jg ?_|refine jh ?_|refine ji ?_|refine jj ?_|refine jk ?_|refine jl ?_|refine jm ?_|refine jn ?_|refine jo ?_|refine jp ?_|refine jq ?_|refine jr ?_|refine js ?_|refine jt ?_|refine ju ?_|refine jv ?_|refine jw ?_|refine jx ?_|refine jy ?_|refine jz ?_|refine jA ?_|refine jB ?_|refine jC ?_|refine jD ?_|refine jE ?_|refine jF ?_|refine jG ?_|refine jH ?_|refine jI ?_|refine jJ ?_|refine jK ?_|refine jL ?_|refine jM (by assumption) ?_|refine jN (by assumption) rfl ?_|refine jO (by assumption) ?_|refine jP (by assumption) rfl ?_|refine jQ ?_|refine jR ?_|refine jS ?_|refine jT ?_|refine jU (by assumption) rfl ?_))
    refine M.pure_i (.agg ⟨[vi e0.lit, vi b0]⟩) (fun _ => by kernel_rfl) ?_
    refine M.buildSlice_i [vi e0.lit, vi b0] (by kernel_rfl) (fun w10 b10 k10 s10 => ?_)
    have k810 := k9.trans k10 (fun _ _ e => e)
    have hT10 := hT8.keep k810
    have hB10 := hT10.wb.st
    (repeat (first|refine ja ?_|refine jb ?_|refine jc ?_|refine jd ?_|refine je ?_|refine jf ?_|refine jg ?_|refine jh ?_|refine ji ?_|refine jj ?_|refine jk ?_|refine jl ?_|refine jm ?_|refine jn ?_|refine jo ?_|refine jp ?_|refine jq ?_|refine jr ?_|refine js ?_|refine jt ?_|refine ju ?_|refine jv ?_|refine jw ?_|refine jx ?_|refine jy ?_|refine jz ?_|refine jA ?_|refine jB ?_|refine jC ?_|refine jD ?_|refine jE ?_|refine jF ?_|refine jG ?_|refine jH ?_|refine jI ?_|refine jJ ?_|refine jK ?_|refine jL ?_|refine jM (by assumption) ?_|refine jN (by assumption) rfl ?_|refine jO (by assumption) ?_|refine jP (by assumption) rfl ?_|refine jQ ?_|refine jR ?_|refine jS ?_|refine jT ?_|refine jU (by assumption) rfl ?_))
    have hdg := hT10.wb.dn
    rw [hdn7] at hdg
    refine M.append_i (m := 1) hdg (Row.of_blk' (D := fun _ => True) b10 trivial) rfl (List.all_eq_true.1 rfl) rfl (by omega) (by omega) (fun v11 w11 g11 k11 => ?_)
    have hB11 := hB10.keep k11 (by show ¬ ow8 q = 5; omega)
    (repeat (first|refine ja ?_|refine jb ?_|refine jc ?_|refine jd ?_|refine je ?_|refine jf ?_|refine jg ?_|refine jh ?_|refine ji ?_|refine jj ?_|refine jk ?_|refine jl ?_|refine jm ?_|refine jn ?_|refine jo ?_|refine jp ?_|refine jq ?_|refine jr ?_|refine js ?_|refine jt ?_|refine ju ?_|refine jv ?_|refine jw ?_|refine jx ?_|refine jy ?_|refine jz ?_|refine jA ?_|refine jB ?_|refine jC ?_|refine jD ?_|refine jE ?_|refine jF ?_|refine jG ?_|refine jH ?_|refine jI ?_|refine jJ ?_|refine jK ?_|refine jL ?_|refine jM (by assumption) ?_|refine jN (by assumption) rfl ?_|refine jO (by assumption) ?_|refine jP (by assumption) rfl ?_|refine jQ ?_|refine jR ?_|refine jS ?_|refine jT ?_|refine jU (by assumption) rfl ?_))
    refine M.store_i hB11 (by simp) (GC.one g11) (fun w12 b12 k12 s12 => ?_)
    have g12 := g11.keep k12 (fun b _ e e2 => by
      have e2 : b = q := e2
      subst e2
      rcases e with e | e
      · omega
      · have := hT10.wb.lt b (by omega); omega)
    have own : ∀ b, w10.heap.size ≤ b → ow8 b = 0 := fun b hb => by
      by_cases e : ow8 b = 0
      · exact e
      · have := hT10.wb.lt b e; omega
    have g12' : GC w12 (fun b => ow8 b = 5 ∨ w10.heap.size ≤ b) 2 v11 (s7.done ++ [(⟨e0.lit, b0⟩ : Hd)]).length ((s7.done ++ [(⟨e0.lit, b0⟩ : Hd)]).flatMap Hd.cells) := by
      rw [List.length_append, List.length_singleton, hdn7, List.flatMap_append]
      exact g12
    have wb12 := hT10.wb.setDn (w1 := w12) g12' (fun b e => by
      rcases e with e | e
      · exact .inl e
      · exact .inr (own b e)) ((k11.mono (fun _ _ e => .inr e)).trans (k12.mono (fun _ _ e => .inl e)) (fun _ _ e => e)) b12
    obtain ⟨O12, hT12, m12⟩ := hT10.setW ((k11.mono (fun b _ e => by have e : ow8 b = 5 := e; show ow8 b ≠ 0; omega)).trans (k12.mono (fun b _ e => by have e : b = q := e; show ow8 b ≠ 0; rw [e]; omega)) (fun _ _ e => e)) wb12 (fun b hb e => by
      rcases relX_le e with h | h
      · exact h
      · rcases (GC.blkOf g12' h).1 with e | e
        · omega
        · omega)
    (repeat (first|refine ja ?_|refine jb ?_|refine jc ?_|refine jd ?_|refine je ?_|refine jf ?_|refine jg ?_|refine jh ?_|refine ji ?_|refine jj ?_|refine jk ?_|refine jl ?_|refine jm ?_|refine jn ?_|refine jo ?_|refine jp ?_|refine jq ?_|refine jr ?_|refine js ?_|refine jt ?_|refine ju ?_|refine jv ?_|refine jw ?_|refine jx ?_|refine jy ?_|refine jz ?_|refine jA ?_|refine jB ?_|refine jC ?_|refine jD ?_|refine jE ?_|refine jF ?_|refine jG ?_|refine jH ?_|refine jI ?_|refine jJ ?_|refine jK ?_|refine jL ?_|refine jM (by assumption) ?_|refine jN (by assumption) rfl ?_|refine jO (by assumption) ?_|refine jP (by assumption) rfl ?_|refine jQ ?_|refine jR ?_|refine jS ?_|refine jT ?_|refine jU (by assumption) rfl ?_))
    refine hK2 (2 * t.vars - (s5.done.length + 1)) _ _ (by omega) ⟨t7, { s7 with done := s7.done ++ [⟨e0.lit, b0⟩] }, O12, wv7, true, s5.done.length + 1, rfl, rfl, by show _ = (s7.done ++ [_]).length; rw [List.length_append, List.length_singleton, hdn7], ⟨_, _, _, _, _, _, hT12⟩, m5.trans (m58.trans ((OMod.of k810).trans m12)), ⟨_, _, hx5.trans hx7⟩, hcq5.trans hF.ceq, wi8, hF.ri, by show s7.ever = _; rw [hF.ev, hev5], fu8, by have := hF.sz; show s7.sz ≤ _; omega, .inr ⟨rfl, ?_⟩⟩
    rcases hor with ⟨_, _, e⟩ | ⟨_, e⟩
    · rw [e]; omega
    · omega
  · have hd5 : s2.done.length ≤ s5.done.length := by
      rcases hor with ⟨_, _, e⟩ | ⟨_, e⟩
      · rw [e, hdn3]; exact Nat.le_refl _
      · omega
    (repeat (first|refine ja ?_|refine jb ?_|refine jc ?_|refine jd ?_|refine je ?_|refine jf ?_|refine jg ?_|refine jh ?_|refine ji ?_|refine jj ?_|refine jk ?_|refine jl ?_|refine jm ?_|refine jn ?_|refine jo ?_|refine jp ?_|refine jq ?_|refine jr ?_|refine js ?_|refine jt ?_|refine ju ?_|refine jv ?_|refine jw ?_|refine jx ?_|refine jy ?_|refine jz ?_|refine jA ?_|refine jB ?_|refine jC ?_|refine jD ?_|refine jE ?_|refine jF ?_|refine jG ?_|refine jH ?_|refine jI ?_|refine jJ ?_|refine jK ?_|refine jL ?_|refine jM (by assumption) ?_|refine jN (by assumption) rfl ?_|refine jO (by assumption) ?_|refine jP (by assumption) rfl ?_|refine jQ ?_|refine jR ?_|refine jS ?_|refine jT ?_|refine jU (by assumption) rfl ?_))
    have kd := Keep.drew w5 No
    have h8 := h5.keepN kd
    have m08 := m05.trans (OMod.of kd)
    generalize w5.drew = w8 at *
    obtain ⟨lab8, ow8, r8, vb8, vd8, bvs8, hT8⟩ := id h8
    have hB8 := hT8.wb.st
    cases nw with
    | true =>
      (repeat (first|refine ja ?_|refine jb ?_|refine jc ?_|refine jd ?_|refine je ?_|refine jf ?_|refine jg ?_|refine jh ?_|refine ji ?_|refine jj ?_|refine jk ?_|refine jl ?_|refine jm ?_|refine jn ?_|refine jo ?_|refine jp ?_|refine jq ?_|refine jr ?_|refine js ?_|refine jt ?_|refine ju ?_|refine jv ?_|refine jw ?_|refine jx ?_|refine jy ?_|refine jz ?_|refine jA ?_|refine jB ?_|refine jC ?_|refine jD ?_|refine jE ?_|refine jF ?_|refine jG ?_|refine jH ?_|refine jI ?_|refine jJ ?_|refine jK ?_|refine jL ?_|refine jM (by assumption) ?_|refine jN (by assumption) rfl ?_|refine jO (by assumption) ?_|refine jP (by assumption) rfl ?_|refine jQ ?_|refine jR ?_|refine jS ?_|refine jT ?_|refine jU (by assumption) rfl ?_))
      have hgrow : t2.L.length + s2.done.length + 1 ≤ t5.L.length + s5.done.length := by
        rcases hor with ⟨e1, e2, e3⟩ | ⟨_, e⟩
        · have := hyes e1.symm
          omega
        · omega
      have hm3 : (t2.L.length + s2.done.length + 1) * s.cls.length ≤ (t5.L.length + s5.done.length) * s.cls.length := Nat.mul_le_mul_right _ hgrow
      have hm4 : (t2.L.length + s2.done.length + 1) * s.cls.length = (t2.L.length + s2.done.length) * s.cls.length + s.cls.length := by rw [Nat.add_mul, Nat.one_mul]
      exact hK _ _ _ (by omega) ⟨rfl, t5, s5, O5, wv5, h8, m08, ⟨⟨_, _, hx03.trans hx5⟩, hcq3.trans hcq5, wi5, ri5, by rw [hev5, hev3], hfu5⟩, by omega, rfl⟩
    | false =>
      have hor' : news = false ∧ t5 = t3 ∧ s5 = s3 := by
        rcases hor with ⟨e1, e2, e3⟩ | ⟨e, _⟩
        · exact ⟨e1.symm, e2, e3⟩
        · cases e
      obtain ⟨hn0, rfl, rfl⟩ := hor'
      obtain ⟨ht0, hwh⟩ := hno hn0
      obtain ⟨DB, dcb, hvd8, _, _⟩ := GC.row2 hT8.wb.dn (by omega)
      subst hvd8
      (repeat (first|refine ja ?_|refine jb ?_|refine jc ?_|refine jd ?_|refine je ?_|refine jf ?_|refine jg ?_|refine jh ?_|refine ji ?_|refine jj ?_|refine jk ?_|refine jl ?_|refine jm ?_|refine jn ?_|refine jo ?_|refine jp ?_|refine jq ?_|refine jr ?_|refine js ?_|refine jt ?_|refine ju ?_|refine jv ?_|refine jw ?_|refine jx ?_|refine jy ?_|refine jz ?_|refine jA ?_|refine jB ?_|refine jC ?_|refine jD ?_|refine jE ?_|refine jF ?_|refine jG ?_|refine jH ?_|refine jI ?_|refine jJ ?_|refine jK ?_|refine jL ?_|refine jM (by assumption) ?_|refine jN (by assumption) rfl ?_|refine jO (by assumption) ?_|refine jP (by assumption) rfl ?_|refine jQ ?_|refine jR ?_|refine jS ?_|refine jT ?_|refine jU (by assumption) rfl ?_))
      refine M.call_i (lits_tw h8) ?_; rintro lv9 w9 ⟨g9, k9⟩
      obtain ⟨LB, lcb, rfl, _, _⟩ := GI.lv g9
      have hB9 := hB8.keep k9 (fun e => e)
      have heq : s5.done.length = t5.L.length := by omega
      have hll5 : (t5.L.map (·.lit)).length = t5.L.length := by simp
      (repeat (first|refine ja ?_|refine jb ?_|refine jc ?_|refine jd ?_|refine je ?_|refine jf ?_|refine jg ?_|refine jh ?_|refine ji ?_|refine jj ?_|refine jk ?_|refine jl ?_|refine jm ?_|refine jn ?_|refine jo ?_|refine jp ?_|refine jq ?_|refine jr ?_|refine js ?_|refine jt ?_|refine ju ?_|refine jv ?_|refine jw ?_|refine jx ?_|refine jy ?_|refine jz ?_|refine jA ?_|refine jB ?_|refine jC ?_|refine jD ?_|refine jE ?_|refine jF ?_|refine jG ?_|refine jH ?_|refine jI ?_|refine jJ ?_|refine jK ?_|refine jL ?_|refine jM (by assumption) ?_|refine jN (by assumption) rfl ?_|refine jO (by assumption) ?_|refine jP (by assumption) rfl ?_|refine jQ ?_|refine jR ?_|refine jS ?_|refine jT ?_|refine jU (by assumption) rfl ?_))
      exact ⟨t5, s5, O5, wv5, -1, true, rfl, h8.keepN k9, m08.trans (OMod.of k9), ⟨⟨_, _, hx03⟩, hcq3, hS.wi, hS.ri, hev3, by omega, .inl ⟨rfl, rfl, shut_of hS.wi hf3 hfull3 heq (fun c hc hw => by
        obtain ⟨x, x1, x2⟩ := hwh c hc hw
        exact ⟨x, x1, by rw [ht0]; exact x2⟩)⟩⟩⟩
end
end Go.Proofs.Ytnmbgfonlpjicaa
