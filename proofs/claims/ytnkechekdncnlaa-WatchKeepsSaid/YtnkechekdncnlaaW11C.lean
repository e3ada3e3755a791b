import Derived.Test.YtnkechekdncnlaaW11B
namespace Go.Proofs.Ytnkechekdncnlaa
open Go.Mw
set_option linter.unusedVariables false
set_option linter.unusedSimpArgs false
set_option maxRecDepth 100000
attribute [local irreducible] M.val M.unit M.next M.pick M.new M.nilCheck M.load1 M.loadA M.store M.fieldAddr M.indexSl M.indexArr M.slice M.makeSlice M.buildSlice M.len M.lenS M.cap M.append M.extract M.conv M.not M.neg M.bin M.shift M.eqB M.eqNil M.call M.callv M.gd M.share M.cond M.loop M.draw pureW readW Ret
/-! breakwater/breakwaterlaw11.run: function 19 -/
def sh19 (x0 x1 x2 : Value) (R : Kt) (w : World) : Prop :=
  M.new 48 (Value.cells x2) (fun t5 w =>
  M.call Try.prog 27 #[x0] (fun t16 w =>
  M.call Try.prog 20 #[x0] (fun t18 w =>
  M.call Try.prog 8 #[x1, x0] (fun t22 w =>
  M.extract 0 t22 (fun t23 w =>
  M.extract 1 t22 (fun t24 w =>
  M.loadA 3 t5 (fun t26 w =>
  M.call Try.prog 39 #[t26, t16] (fun t28 w =>
  M.extract 0 t28 (fun t29 w =>
  M.extract 1 t28 (fun t30 w =>
  M.call Try.prog 20 #[x0] (fun t32 w =>
  M.bin .neq t32 t18 (fun t34 w =>
  M.gd t34 false (fun k w => k x0 w) (fun t36 w =>
  M.gd t34 false (fun k w => M.call Try.prog 27 #[t36] k w) (fun t37 w =>
  M.gd t34 false (fun k w => k t16 w) (fun t38 w =>
  M.gd t34 false (fun k w => M.len t38 k w) (fun t39 w =>
  M.gd t34 false (fun k w => M.slice 1 t37 none (some t39) none k w) (fun t40 w =>
  M.gd t34 false (fun k w => k t16 w) (fun t41 w =>
  M.gd t34 false (fun k w => M.call Try.prog 40 #[t40, t41] k w) (fun t42 w =>
  M.gd t34 false (fun k w => M.not t42 k w) (fun t43 w =>
  M.pick t34 (Value.bool true) t43 (fun t44 w =>
  M.gd t44 false (fun k w => k x0 w) (fun t46 w =>
  M.gd t44 false (fun k w => M.loadA 3 t5 k w) (fun t47 w =>
  M.gd t44 false (fun k w => M.call Try.prog 41 #[t46, t47] k w) (fun t48 w =>
  M.gd t44 false (fun k w => M.not t48 k w) (fun t49 w =>
  M.pick t44 (Value.bool true) t49 (fun t50 w =>
  M.cond t50
  (R (.tuple #[(Value.bool false), (Value.bool false)]) w)
  (M.cond t24
  (M.bin .eql t23 (Value.int IntKind.i64 (-1)) (fun t53 w =>
  M.gd t53 true (fun k w => k t30 w) (fun t55 w =>
  M.pick t53 t55 (Value.bool false) (fun t56 w =>
  M.gd t56 true (fun k w => k x0 w) (fun t58 w =>
  M.gd t56 true (fun k w => M.call Try.prog 27 #[t58] k w) (fun t59 w =>
  M.gd t56 true (fun k w => k t29 w) (fun t60 w =>
  M.gd t56 true (fun k w => M.call Try.prog 22 #[t59, t60] k w) (fun t61 w =>
  M.pick t56 t61 (Value.bool false) (fun t62 w =>
  R (.tuple #[t62, (Value.bool false)]) w) w) w) w) w) w) w) w) w)
  (M.gd t30 false (fun k w => M.loadA 3 t5 k w) (fun t65 w =>
  M.gd t30 false (fun k w => k t23 w) (fun t66 w =>
  M.gd t30 false (fun k w => M.call Try.prog 42 #[t65, t66] k w) (fun t67 w =>
  M.gd t30 false (fun k w => M.not t67 k w) (fun t68 w =>
  M.pick t30 (Value.bool true) t68 (fun t69 w =>
  M.cond t69
  (R (.tuple #[(Value.bool false), (Value.bool true)]) w)
  (M.loop [(Value.int IntKind.i64 0)] (fun s1 K1 w => ∀ _ : List Value,
  M.fieldAddr 1 t5 (fun t71 w =>
  M.load1 t71 (fun t72 w =>
  M.indexSl 1 t72 t23 (fun t74 w =>
  M.load1 t74 (fun t75 w =>
  M.len t75 (fun t76 w =>
  M.bin .lss (s1.getD 0 undef) t76 (fun t77 w =>
  M.cond t77
  (M.fieldAddr 1 t5 (fun t81 w =>
  M.load1 t81 (fun t82 w =>
  M.indexSl 1 t82 t23 (fun t84 w =>
  M.load1 t84 (fun t85 w =>
  M.indexSl 1 t85 (s1.getD 0 undef) (fun t87 w =>
  M.load1 t87 (fun t88 w =>
  M.call Try.prog 43 #[x0, t88] (fun t89 w =>
  M.bin .neq t89 (Value.int IntKind.i64 (-1)) (fun t90 w =>
  M.cond t90
  (R (.tuple #[(Value.bool false), (Value.bool true)]) w)
  (M.bin .add (s1.getD 0 undef) (Value.int IntKind.i64 1) (fun t79 w =>
  K1 [t79] w) w)) w) w) w) w) w) w) w) w)
  (R (.tuple #[(Value.bool true), (Value.bool true)]) w)) w) w) w) w) w) w) w)) w) w) w) w) w))) w) w) w) w) w) w) w) w) w) w) w) w) w) w) w) w) w) w) w) w) w) w) w) w) w) w
theorem ok19 (x0 x1 x2 : Value) (R : Kt) (w : World) (h : sh19 x0 x1 x2 R w) : Ret Try.prog 19 #[x0, x1, x2] w R :=
  ret_mk <| calls_of_comp mixed (c := Try.f19.body.getD .skip) (args := [x0, x1, x2]) (rs := [(ResultVar.tmp 6), (ResultVar.tmp 7)]) (Ann.seq Ann.text (Ann.seq Ann.text (Ann.seq Ann.text (Ann.seq Ann.text (Ann.seq Ann.text (Ann.seq (Ann.seq Ann.text (Ann.cond (Ann.seq Ann.text Ann.leaf) Ann.leaf)) (Ann.seq (Ann.seq Ann.text (Ann.cond (Ann.seq Ann.text Ann.leaf) Ann.leaf)) (Ann.seq (Ann.seq Ann.text (Ann.cond (Ann.seq Ann.text Ann.leaf) Ann.leaf)) (Ann.seq (Ann.seq Ann.text (Ann.block (Ann.loop [14] [6, 7, 70, 71, 72, 73, 74, 75, 76, 77, 78, 79, 80, 81, 82, 83, 84, 85, 86, 87, 88, 89, 90] (Ann.seq (Ann.seq Ann.text (Ann.cond Ann.leaf Ann.leaf)) (Ann.seq (Ann.block (Ann.seq Ann.text (Ann.cond (Ann.seq Ann.text Ann.leaf) Ann.leaf))) Ann.text))))) (Ann.seq Ann.text Ann.leaf))))))))))
    Try.func19 (by kernel_rfl) (by kernel_rfl)
    (Eq.mp (by kernel_rfl) h)
/-! breakwater/breakwaterlaw11.act: function 17 -/
def sh17 (x0 x1 x2 x3 : Value) (R : Kt) (w : World) : Prop :=
  M.new 48 (Value.cells x2) (fun t6 w =>
  M.new 24 (Value.cells x3) (fun t7 w =>
  M.new 48 #[.int .i64 0, .slice none 0 0, .slice none 0 0] (fun t8 w =>
  M.fieldAddr 0 t7 (fun t17 w =>
  M.load1 t17 (fun t18 w =>
  M.share (fun K1 w =>
  M.bin .eql t18 (Value.int IntKind.i64 0) (fun t20 w =>
  M.cond t20
  (M.loadA 3 t6 (fun t22 w =>
  M.fieldAddr 2 t7 (fun t23 w =>
  M.load1 t23 (fun t24 w =>
  M.call Try.prog 34 #[t22, t24] (fun t25 w =>
  M.extract 0 t25 (fun t26 w =>
  M.extract 1 t25 (fun t27 w =>
  M.extract 2 t25 (fun t28 w =>
  M.new 48 #[.int .i64 0, .slice none 0 0, .slice none 0 0] (fun t10 w =>
  M.store 3 t10 t26 (fun _ w =>
  M.fieldAddr 2 t7 (fun t32 w =>
  M.load1 t32 (fun t33 w =>
  M.call Try.prog 6 #[x1, x0, t33] (fun t34 w =>
  M.extract 0 t34 (fun t35 w =>
  M.extract 1 t34 (fun t36 w =>
  M.loadA 3 t10 (fun t37 w =>
  M.bin .eql t27 t35 (fun t40 w =>
  M.gd t40 true (fun k w => k t36 w) (fun t42 w =>
  M.gd t40 true (fun k w => k t28 w) (fun t43 w =>
  M.gd t40 true (fun k w => M.bin .eql t42 t43 k w) (fun t44 w =>
  M.pick t40 t44 (Value.bool false) (fun t45 w =>
  M.store 3 t8 t37 (fun _ w =>
  M.loadA 3 t8 (fun r0 w => R (.tuple #[r0, t45]) w) w) w) w) w) w) w) w) w) w) w) w) w) w) w) w) w) w) w) w) w) w) w)
  (M.bin .eql t18 (Value.int IntKind.i64 1) (fun t47 w =>
  M.cond t47
  (M.fieldAddr 1 t7 (fun t49 w =>
  M.load1 t49 (fun t50 w =>
  M.call Try.prog 35 #[x0, t50] (fun t51 w =>
  M.cond t51
  (M.loadA 3 t6 (fun t52 w =>
  M.store 3 t8 t52 (fun _ w =>
  M.loadA 3 t8 (fun r0 w => R (.tuple #[r0, (Value.bool true)]) w) w) w) w)
  (M.loadA 3 t6 (fun t54 w =>
  M.fieldAddr 1 t7 (fun t55 w =>
  M.load1 t55 (fun t56 w =>
  M.call Try.prog 36 #[t54, t56] (fun t57 w =>
  M.extract 0 t57 (fun t58 w =>
  M.extract 1 t57 (fun t59 w =>
  M.new 48 #[.int .i64 0, .slice none 0 0, .slice none 0 0] (fun t15 w =>
  M.store 3 t15 t58 (fun _ w =>
  M.draw (fun w =>
  M.loadA 3 t15 (fun t60 w =>
  M.fieldAddr 1 t7 (fun t62 w =>
  M.load1 t62 (fun t63 w =>
  M.call Try.prog 10 #[x1, t63] (fun t64 w =>
  ((M.loadA 3 t15 (fun v' _ => v' = t60) w) ∧ M.eqB false t64 t59 (fun t66 w =>
  M.store 3 t8 t60 (fun _ w =>
  M.loadA 3 t8 (fun r0 w => R (.tuple #[r0, t66]) w) w) w) w)) w) w) w) w) w) w) w) w) w) w) w) w) w)) w) w) w)
  (M.bin .eql t18 (Value.int IntKind.i64 2) (fun t68 w =>
  M.cond t68
  (M.loadA 3 t7 (fun t70 w =>
  M.call Try.prog 38 #[t70] (fun t71 w =>
  M.call Try.prog 37 #[x0, t71] (fun t72 w =>
  K1 [] w) w) w) w)
  (M.bin .eql t18 (Value.int IntKind.i64 3) (fun t74 w =>
  M.cond t74
  (M.fieldAddr 1 t7 (fun t76 w =>
  M.load1 t76 (fun t77 w =>
  M.call Try.prog 21 #[x0, t77] (fun t78 w =>
  K1 [] w) w) w) w)
  (M.bin .eql t18 (Value.int IntKind.i64 4) (fun t80 w =>
  M.cond t80
  (M.loadA 3 t7 (fun t82 w =>
  M.call Try.prog 38 #[t82] (fun t83 w =>
  M.call Try.prog 32 #[x0, t83, (Value.int IntKind.i64 (-1))] (fun t84 w =>
  K1 [] w) w) w) w)
  (K1 [] w)) w)) w)) w)) w)) w) (fun s1 w => ∀ _ : List Value,
  M.loadA 3 t6 (fun t85 w =>
  M.store 3 t8 t85 (fun _ w =>
  M.loadA 3 t8 (fun r0 w => R (.tuple #[r0, (Value.bool true)]) w) w) w) w) w) w) w) w) w) w
theorem ok17 (x0 x1 x2 x3 : Value) (R : Kt) (w : World) (h : sh17 x0 x1 x2 x3 R w) : Ret Try.prog 17 #[x0, x1, x2, x3] w R :=
  ret_mk <| calls_of_comp mixed (c := Try.f17.body.getD .skip) (args := [x0, x1, x2, x3]) (rs := [(ResultVar.cell 8 48), (ResultVar.tmp 9)]) (Ann.seq Ann.text (Ann.seq (Ann.seq Ann.text (Ann.jblock [] [9, 10, 11, 12, 13, 14, 15, 16, 19, 20, 21, 22, 23, 24, 25, 26, 27, 28, 29, 30, 31, 32, 33, 34, 35, 36, 37, 38, 39, 40, 41, 42, 43, 44, 45, 46, 47, 48, 49, 50, 51, 52, 53, 54, 55, 56, 57, 58, 59, 60, 61, 62, 63, 64, 65, 66, 67, 68, 69, 70, 71, 72, 73, 74, 75, 76, 77, 78, 79, 80, 81, 82, 83, 84] (Ann.seq Ann.text (Ann.cond (Ann.seq Ann.text (Ann.seq Ann.text (Ann.seq Ann.text Ann.leaf))) (Ann.seq Ann.text (Ann.cond (Ann.seq (Ann.seq Ann.text (Ann.cond (Ann.seq Ann.text Ann.leaf) Ann.leaf)) (Ann.seq Ann.text (Ann.seq (Ann.draw (Sch.take 0 (Sch.take 1 (Sch.take 2 (Sch.take 3 (Sch.take 5 (Sch.one 4 (Sch.take 6 (Sch.one 7 (Sch.take 8 Sch.done)))))))))) Ann.leaf))) (Ann.seq Ann.text (Ann.cond Ann.text (Ann.seq Ann.text (Ann.cond Ann.text (Ann.seq Ann.text (Ann.cond Ann.text Ann.leaf)))))))))))) (Ann.seq Ann.text Ann.leaf)))
    Try.func17 (by kernel_rfl) (by kernel_rfl)
    (Eq.mp (by kernel_rfl) h)

def OkP (x : X11) : Prop := ∀ p ∈ x.P, p.1.length ≤ 12 ∧ ∀ y ∈ p.1, 0 ≤ y ∧ y < 2 * x.vars
theorem flat_le12 : ∀ l : List (List Int), (∀ c ∈ l, c.length ≤ 12) → l.flatten.length ≤ 12 * l.length
  | [], _ => by simp
  | c :: l, h => by
    have := flat_le12 l (fun d hd => h d (List.mem_cons_of_mem _ hd))
    have := h c List.mem_cons_self
    simp only [List.flatten_cons, List.length_append, List.length_cons]
    omega
theorem mem_allP {P : List (List Int × Bool)} {l : List Int} (h : l ∈ allC P) : (l, true) ∈ P := by
  obtain ⟨k, hk⟩ := mem_allC.1 h
  exact List.mem_of_getElem? hk
section
variable {w w1 : World} {p q : Nat} {bk : Nat → Nat} {cv : Nat → Value} {wv : Value} {t : Tr} {s : Wt} {O : Nat → Prop} {a b : Value} {x : X11} {nA nB nC : Nat}
theorem i64_of {y : Int} {n : Nat} (h : 0 ≤ y ∧ y < 2 * n) (hn : n ≤ 40) : I64 y := ⟨by omega, by omega⟩
set_option maxHeartbeats 4000000 in
theorem run11_ret (h : TWR w p q O bk cv wv t s) (I : Inv t s nA nB nC) (hA : nA ≤ 100000) (hB : nB ≤ 1000000) (hC : nC ≤ 61) (r : Rel x s) (hx : XR w O a b x) (hP : OkP x) :
    Ret Try.prog 19 #[ptr p, ptr q, .agg ⟨[vi x.vars, a, b]⟩] w (fun v w' => ∃ t' s' O' wv' i ok, v = .tuple #[.bool true, .bool (!ok)] ∧ TWR w' p q O' bk cv wv' t' s' ∧ OMod w w' O O' ∧ RunR t s t' s' i ok) := by
  have hxv : x.vars = t.vars := by rw [r.vars, I.wi.vars]
  have hv40 := I.vars
  have hPl : x.P.length ≤ 61 := by rw [← r.ever]; exact Nat.le_trans I.ev hC
  have hI : ∀ c ∈ allC x.P, ∀ y ∈ c, I64 y := fun c hc y hy => i64_of ((hP _ (mem_allP hc)).2 y hy) (by omega)
  have hfew : FewL (allC x.P) (t.L.map (·.lit)) := by
    unfold FewL
    rw [List.length_append, List.length_map]
    have h1 := flat_le12 (allC x.P) (fun c hc => (hP _ (mem_allP hc)).1)
    have h2 := allC_le x.P
    have h3 := h.fine.len
    omega
  have hJ : ∀ y ∈ t.L.map (·.lit), I64 y := fun y hy => by
    obtain ⟨e, he, rfl⟩ := List.mem_map.1 hy
    have := h.fine.lt he
    exact ⟨by omega, by omega⟩
  have hcl : ∀ c ∈ s.cls, c.lits.length ≤ 1000000 := fun c hc => by have := I.cl c hc; omega
  have hlen := I.len
  have hz : s.sz + (2 * t.vars + 2) * s.cls.length ≤ 400000000 := by
    have h1 := I.sz
    have h2 : (2 * t.vars + 2) * s.cls.length ≤ 82 * 61 := Nat.mul_le_mul (by omega) (by omega)
    omega
  have hxa := hx.1.one
  have hxb := LV.one hx.2
  refine ok19 _ _ _ _ _ ?_
  unfold sh19
  refine M.new_i (l := [vi x.vars, a, b]) (fun w1 b1 k1 s1 => ?_)
  refine M.call_i (lits_tw (h.keepN k1)) ?_; rintro lv w2 ⟨g2, k2⟩
  have b2 := b1.keep k2 (fun h => h)
  have k12 := k1.trans k2 (fun _ _ h => h)
  refine M.call_i (lvs_tw (h.keepN k12)) ?_; rintro _ w3 ⟨rfl, k3⟩
  have b3 := b2.keep k3 (fun h => h)
  have k13 := k12.trans k3 (fun _ _ h => h)
  have h3 := h.keepN k13
  have g3 := g2.keep k3 (fun _ _ _ h => h)
  refine M.call_i (run_ret h3 I.wi I.ri I.bi hz hcl I.c0 (by have := I.cc; omega)) ?_; rintro _ w4 ⟨t', s', O', wv', i, ok, rfl, h4, m4, R⟩
  have hO : ∀ b, O b → b < w.heap.size := fun b e => h.lt e
  have b4 := b3.keep m4.1 (fun e => by have := hO _ e; omega)
  have g4 := g3.keep m4.1 (fun b hb e e2 => by have e : w1.heap.size ≤ b := e; have := hO _ e2; omega)
  have m04 : OMod w w4 O O' := (OMod.of k13).trans m4
  have hx4 := hx.omod m04
  have hf4 := h4.fine
  have hv4 : s'.vars = s.vars := by
    obtain ⟨_, _, hxx⟩ := R.ext
    rw [R.wi.vars, hxx.vars, I.wi.vars]
  have r4 := r.ceq2 R.ceq R.ev hv4
  have held : HeldP x t' := fun i e he h0 => held_law r4 R.ri he h0
  refine M.extract_i rfl ?_
  refine M.extract_i rfl ?_
  refine M.loadAll_i b4 rfl ?_
  refine M.call_i (rrun11_ret hx4 (by omega) (GI.lv g4) hfew hI hJ) ?_; rintro _ w5 ⟨o, out, kk, rfl, hc, g5, k5⟩
  obtain ⟨rfl, law1, law2⟩ := run_law r R hv4 hf4 hc
  have b5 := b4.keep k5 (fun h => h)
  have g25 := g4.keep k5 (fun _ _ _ h => h)
  have h5 := h4.keepN k5
  refine M.extract_i rfl ?_
  refine M.extract_i rfl ?_
  refine M.call_i (lvs_tw h5) ?_; rintro _ w6 ⟨rfl, k6⟩
  obtain ⟨new, nb, hxx⟩ := R.ext
  rw [hxx.begins]
  have b6 := b5.keep k6 (fun h => h)
  have h6 := h5.keepN k6
  have g26 := g25.keep k6 (fun _ _ _ h => h)
  (repeat (first|refine ja ?_|refine jb ?_|refine jc ?_|refine jd ?_|refine je ?_|refine jf ?_|refine jg ?_|refine jh ?_|refine ji ?_|refine jj ?_|refine jk ?_|refine jl ?_|refine jm ?_|refine jn ?_|refine jo ?_|refine jp ?_|refine jq ?_|refine jr ?_|refine js ?_|refine jt ?_|refine ju ?_|refine jv ?_|refine jw ?_|refine jx ?_|refine jy ?_|refine jz ?_|refine jA ?_|refine jB ?_|refine jC ?_|refine jD ?_|refine jE ?_|refine jF ?_|refine jG ?_|refine jH ?_|refine jI ?_|refine jJ ?_|refine jK ?_|refine jL ?_|refine jM (by assumption) ?_|refine jN (by assumption) rfl ?_|refine jO (by assumption) ?_|refine jP (by assumption) rfl ?_|refine jQ ?_|refine jR ?_|refine jS ?_|refine jT ?_|refine jU (by assumption) rfl ?_))
  refine M.call_i (lits_tw h6) ?_; rintro lv2 w7 ⟨g7, k7⟩
  have b7 := b6.keep k7 (fun h => h)
  have g27 := g26.keep k7 (fun _ _ _ h => h)
  obtain ⟨A7, c7, rfl, hr7, hc7⟩ := GI.lv g7
  obtain ⟨A2, c2, rfl, hr2, hc2⟩ := GI.lv g27
  have el : t'.L.length = t.L.length + new.length := by rw [hxx.L, List.length_append]
  have e1 : (t'.L.map (·.lit)).length = t'.L.length := List.length_map _
  have e2 : (t.L.map (·.lit)).length = t.L.length := List.length_map _
  have hl5 := hf4.len
  (repeat (first|refine ja ?_|refine jb ?_|refine jc ?_|refine jd ?_|refine je ?_|refine jf ?_|refine jg ?_|refine jh ?_|refine ji ?_|refine jj ?_|refine jk ?_|refine jl ?_|refine jm ?_|refine jn ?_|refine jo ?_|refine jp ?_|refine jq ?_|refine jr ?_|refine js ?_|refine jt ?_|refine ju ?_|refine jv ?_|refine jw ?_|refine jx ?_|refine jy ?_|refine jz ?_|refine jA ?_|refine jB ?_|refine jC ?_|refine jD ?_|refine jE ?_|refine jF ?_|refine jG ?_|refine jH ?_|refine jI ?_|refine jJ ?_|refine jK ?_|refine jL ?_|refine jM (by assumption) ?_|refine jN (by assumption) rfl ?_|refine jO (by assumption) ?_|refine jP (by assumption) rfl ?_|refine jQ ?_|refine jR ?_|refine jS ?_|refine jT ?_|refine jU (by assumption) rfl ?_))
  refine M.slice_i 0 (t.L.map (·.lit)).length c7 (sl3_h (by omega)) ?_
  (repeat (first|refine ja ?_|refine jb ?_|refine jc ?_|refine jd ?_|refine je ?_|refine jf ?_|refine jg ?_|refine jh ?_|refine ji ?_|refine jj ?_|refine jk ?_|refine jl ?_|refine jm ?_|refine jn ?_|refine jo ?_|refine jp ?_|refine jq ?_|refine jr ?_|refine js ?_|refine jt ?_|refine ju ?_|refine jv ?_|refine jw ?_|refine jx ?_|refine jy ?_|refine jz ?_|refine jA ?_|refine jB ?_|refine jC ?_|refine jD ?_|refine jE ?_|refine jF ?_|refine jG ?_|refine jH ?_|refine jI ?_|refine jJ ?_|refine jK ?_|refine jL ?_|refine jM (by assumption) ?_|refine jN (by assumption) rfl ?_|refine jO (by assumption) ?_|refine jP (by assumption) rfl ?_|refine jQ ?_|refine jR ?_|refine jS ?_|refine jT ?_|refine jU (by assumption) rfl ?_))
  have gcut := GI.cut g7 (m := (t.L.map (·.lit)).length) (by omega)
  have ecut : (t'.L.map (·.lit)).take (t.L.map (·.lit)).length = t.L.map (·.lit) := by
    rw [hxx.L, List.map_append, List.take_left]
  rw [ecut] at gcut
  refine M.call_i (same_ret (GI.lv gcut) (GI.lv g27) (by omega)) ?_; rintro _ w8 ⟨rfl, k8⟩
  rw [decide_eq_true rfl]
  have b8 := b7.keep k8 (fun h => h)
  have h8 := (h6.keepN k7).keepN k8
  have k58 := ((k5.trans k6 (fun _ _ h => h)).trans k7 (fun _ _ h => h)).trans k8 (fun _ _ h => h)
  have hx8 := hx4.keepN k58
  (repeat (first|refine ja ?_|refine jb ?_|refine jc ?_|refine jd ?_|refine je ?_|refine jf ?_|refine jg ?_|refine jh ?_|refine ji ?_|refine jj ?_|refine jk ?_|refine jl ?_|refine jm ?_|refine jn ?_|refine jo ?_|refine jp ?_|refine jq ?_|refine jr ?_|refine js ?_|refine jt ?_|refine ju ?_|refine jv ?_|refine jw ?_|refine jx ?_|refine jy ?_|refine jz ?_|refine jA ?_|refine jB ?_|refine jC ?_|refine jD ?_|refine jE ?_|refine jF ?_|refine jG ?_|refine jH ?_|refine jI ?_|refine jJ ?_|refine jK ?_|refine jL ?_|refine jM (by assumption) ?_|refine jN (by assumption) rfl ?_|refine jO (by assumption) ?_|refine jP (by assumption) rfl ?_|refine jQ ?_|refine jR ?_|refine jS ?_|refine jT ?_|refine jU (by assumption) rfl ?_))
  refine M.loadAll_i b8 rfl ?_
  (repeat (first|refine ja ?_|refine jb ?_|refine jc ?_|refine jd ?_|refine je ?_|refine jf ?_|refine jg ?_|refine jh ?_|refine ji ?_|refine jj ?_|refine jk ?_|refine jl ?_|refine jm ?_|refine jn ?_|refine jo ?_|refine jp ?_|refine jq ?_|refine jr ?_|refine js ?_|refine jt ?_|refine ju ?_|refine jv ?_|refine jw ?_|refine jx ?_|refine jy ?_|refine jz ?_|refine jA ?_|refine jB ?_|refine jC ?_|refine jD ?_|refine jE ?_|refine jF ?_|refine jG ?_|refine jH ?_|refine jI ?_|refine jJ ?_|refine jK ?_|refine jL ?_|refine jM (by assumption) ?_|refine jN (by assumption) rfl ?_|refine jO (by assumption) ?_|refine jP (by assumption) rfl ?_|refine jQ ?_|refine jR ?_|refine jS ?_|refine jT ?_|refine jU (by assumption) rfl ?_))
  refine M.call_i (held_ret h8 hx8 held (fun p hp => ⟨by have := (hP p hp).1; omega, fun y hy => i64_of ((hP p hp).2 y hy) (by omega)⟩)) ?_; rintro _ w9 ⟨rfl, k9⟩
  have b9 := b8.keep k9 (fun h => h)
  have h9 := h8.keepN k9
  have k59 := k58.trans k9 (fun _ _ h => h)
  have hx9 := hx8.keepN k9
  have m09 : OMod w w9 O O' := m04.trans (OMod.of k59)
  cases kk with
  | true =>
    obtain ⟨rfl, hsr⟩ := law1 rfl
    (repeat (first|refine ja ?_|refine jb ?_|refine jc ?_|refine jd ?_|refine je ?_|refine jf ?_|refine jg ?_|refine jh ?_|refine ji ?_|refine jj ?_|refine jk ?_|refine jl ?_|refine jm ?_|refine jn ?_|refine jo ?_|refine jp ?_|refine jq ?_|refine jr ?_|refine js ?_|refine jt ?_|refine ju ?_|refine jv ?_|refine jw ?_|refine jx ?_|refine jy ?_|refine jz ?_|refine jA ?_|refine jB ?_|refine jC ?_|refine jD ?_|refine jE ?_|refine jF ?_|refine jG ?_|refine jH ?_|refine jI ?_|refine jJ ?_|refine jK ?_|refine jL ?_|refine jM (by assumption) ?_|refine jN (by assumption) rfl ?_|refine jO (by assumption) ?_|refine jP (by assumption) rfl ?_|refine jQ ?_|refine jR ?_|refine jS ?_|refine jT ?_|refine jU (by assumption) rfl ?_|refine jG ?_ (by decide)|refine jH ?_ (by decide)|refine jI ?_ (by decide)|refine jJ ?_ (by decide)|refine jC ?_ (by decide)|refine jy ?_ (by decide)))
    refine M.call_i (lits_tw h9) ?_; rintro lv3 w10 ⟨g10, k10⟩
    (repeat (first|refine ja ?_|refine jb ?_|refine jc ?_|refine jd ?_|refine je ?_|refine jf ?_|refine jg ?_|refine jh ?_|refine ji ?_|refine jj ?_|refine jk ?_|refine jl ?_|refine jm ?_|refine jn ?_|refine jo ?_|refine jp ?_|refine jq ?_|refine jr ?_|refine js ?_|refine jt ?_|refine ju ?_|refine jv ?_|refine jw ?_|refine jx ?_|refine jy ?_|refine jz ?_|refine jA ?_|refine jB ?_|refine jC ?_|refine jD ?_|refine jE ?_|refine jF ?_|refine jG ?_|refine jH ?_|refine jI ?_|refine jJ ?_|refine jK ?_|refine jL ?_|refine jM (by assumption) ?_|refine jN (by assumption) rfl ?_|refine jO (by assumption) ?_|refine jP (by assumption) rfl ?_|refine jQ ?_|refine jR ?_|refine jS ?_|refine jT ?_|refine jU (by assumption) rfl ?_))
    refine M.call_i (set_ret (GI.lv g10) (GI.lv ((g5.keep ((k6.trans k7 (fun _ _ h => h)).trans k8 (fun _ _ h => h)) (fun _ _ _ h => h)).keep (k9.trans k10 (fun _ _ h => h)) (fun _ _ _ h => h))) (by omega) (by rw [hsr]; have := srt_len (t'.L.map (·.lit)); omega)) ?_; rintro _ w11 ⟨rfl, k11⟩
    rw [decide_eq_true (show srt (t'.L.map (·.lit)) = srt out from by rw [hsr]; exact eq_srt (srt_lt _) (fun y => by rw [mem_srt]))]
    (repeat (first|refine ja ?_|refine jb ?_|refine jc ?_|refine jd ?_|refine je ?_|refine jf ?_|refine jg ?_|refine jh ?_|refine ji ?_|refine jj ?_|refine jk ?_|refine jl ?_|refine jm ?_|refine jn ?_|refine jo ?_|refine jp ?_|refine jq ?_|refine jr ?_|refine js ?_|refine jt ?_|refine ju ?_|refine jv ?_|refine jw ?_|refine jx ?_|refine jy ?_|refine jz ?_|refine jA ?_|refine jB ?_|refine jC ?_|refine jD ?_|refine jE ?_|refine jF ?_|refine jG ?_|refine jH ?_|refine jI ?_|refine jJ ?_|refine jK ?_|refine jL ?_|refine jM (by assumption) ?_|refine jN (by assumption) rfl ?_|refine jO (by assumption) ?_|refine jP (by assumption) rfl ?_|refine jQ ?_|refine jR ?_|refine jS ?_|refine jT ?_|refine jU (by assumption) rfl ?_))
    exact ⟨t', s', O', wv', -1, true, rfl, (h9.keepN k10).keepN k11, (m09.trans (OMod.of k10)).trans (OMod.of k11), R⟩
  | false =>
    obtain ⟨l, h0, hl, hval⟩ := law2 rfl
    have his : isX x i = true := by
      unfold isX
      rw [decide_eq_true h0, hl]; rfl
    have hl1 : (x.P.map (·.1))[i.toNat]? = some l := by rw [List.getElem?_map, hl]; rfl
    (repeat (first|refine ja ?_|refine jb ?_|refine jc ?_|refine jd ?_|refine je ?_|refine jf ?_|refine jg ?_|refine jh ?_|refine ji ?_|refine jj ?_|refine jk ?_|refine jl ?_|refine jm ?_|refine jn ?_|refine jo ?_|refine jp ?_|refine jq ?_|refine jr ?_|refine js ?_|refine jt ?_|refine ju ?_|refine jv ?_|refine jw ?_|refine jx ?_|refine jy ?_|refine jz ?_|refine jA ?_|refine jB ?_|refine jC ?_|refine jD ?_|refine jE ?_|refine jF ?_|refine jG ?_|refine jH ?_|refine jI ?_|refine jJ ?_|refine jK ?_|refine jL ?_|refine jM (by assumption) ?_|refine jN (by assumption) rfl ?_|refine jO (by assumption) ?_|refine jP (by assumption) rfl ?_|refine jQ ?_|refine jR ?_|refine jS ?_|refine jT ?_|refine jU (by assumption) rfl ?_))
    refine M.loadAll_i b9 rfl ?_
    (repeat (first|refine ja ?_|refine jb ?_|refine jc ?_|refine jd ?_|refine je ?_|refine jf ?_|refine jg ?_|refine jh ?_|refine ji ?_|refine jj ?_|refine jk ?_|refine jl ?_|refine jm ?_|refine jn ?_|refine jo ?_|refine jp ?_|refine jq ?_|refine jr ?_|refine js ?_|refine jt ?_|refine ju ?_|refine jv ?_|refine jw ?_|refine jx ?_|refine jy ?_|refine jz ?_|refine jA ?_|refine jB ?_|refine jC ?_|refine jD ?_|refine jE ?_|refine jF ?_|refine jG ?_|refine jH ?_|refine jI ?_|refine jJ ?_|refine jK ?_|refine jL ?_|refine jM (by assumption) ?_|refine jN (by assumption) rfl ?_|refine jO (by assumption) ?_|refine jP (by assumption) rfl ?_|refine jQ ?_|refine jR ?_|refine jS ?_|refine jT ?_|refine jU (by assumption) rfl ?_))
    refine M.call_i (ris_ret hx9 i) ?_; rintro _ w10 ⟨rfl, k10⟩
    rw [his]
    have b10 := b9.keep k10 (fun h => h)
    have h10 := h9.keepN k10
    have hx10 := hx9.keepN k10
    have m10 : OMod w w10 O O' := m09.trans (OMod.of k10)
    obtain ⟨⟨A1, c1, vs, rfl, hll, _⟩, _⟩ := id hx10
    have hll12 : l.length ≤ 12 := (hP _ (List.mem_of_getElem? hl)).1
    (repeat (first|refine ja ?_|refine jb ?_|refine jc ?_|refine jd ?_|refine je ?_|refine jf ?_|refine jg ?_|refine jh ?_|refine ji ?_|refine jj ?_|refine jk ?_|refine jl ?_|refine jm ?_|refine jn ?_|refine jo ?_|refine jp ?_|refine jq ?_|refine jr ?_|refine js ?_|refine jt ?_|refine ju ?_|refine jv ?_|refine jw ?_|refine jx ?_|refine jy ?_|refine jz ?_|refine jA ?_|refine jB ?_|refine jC ?_|refine jD ?_|refine jE ?_|refine jF ?_|refine jG ?_|refine jH ?_|refine jI ?_|refine jJ ?_|refine jK ?_|refine jL ?_|refine jM (by assumption) ?_|refine jN (by assumption) rfl ?_|refine jO (by assumption) ?_|refine jP (by assumption) rfl ?_|refine jQ ?_|refine jR ?_|refine jS ?_|refine jT ?_|refine jU (by assumption) rfl ?_))
    refine M.loop_i (σ := Nat) (fun k vals w' => vals = [vi k] ∧ k ≤ l.length ∧ Keep w10 w' No) (fun k => l.length - k) 0 ⟨rfl, by omega, Keep.refl _ _⟩ ?_
    rintro k vals w11 K ⟨rfl, hk, k11⟩ hK _
    simp only [List.getD_cons_zero, List.getD_cons_succ]
    have b11 := b10.keep k11 (fun h => h)
    have hll11 := hll.keep k11 (fun _ _ _ h => h)
    (repeat (first|refine ja ?_|refine jb ?_|refine jc ?_|refine jd ?_|refine je ?_|refine jf ?_|refine jg ?_|refine jh ?_|refine ji ?_|refine jj ?_|refine jk ?_|refine jl ?_|refine jm ?_|refine jn ?_|refine jo ?_|refine jp ?_|refine jq ?_|refine jr ?_|refine js ?_|refine jt ?_|refine ju ?_|refine jv ?_|refine jw ?_|refine jx ?_|refine jy ?_|refine jz ?_|refine jA ?_|refine jB ?_|refine jC ?_|refine jD ?_|refine jE ?_|refine jF ?_|refine jG ?_|refine jH ?_|refine jI ?_|refine jJ ?_|refine jK ?_|refine jL ?_|refine jM (by assumption) ?_|refine jN (by assumption) rfl ?_|refine jO (by assumption) ?_|refine jP (by assumption) rfl ?_|refine jQ ?_|refine jR ?_|refine jS ?_|refine jT ?_|refine jU (by assumption) rfl ?_))
    refine M.idxLL_i hll11 rfl (by omega) hl1 (fun bb1 oo1 u hc1 g => ?_)
    obtain ⟨A3, c3, rfl, hr3, _⟩ := id g
    (repeat (first|refine ja ?_|refine jb ?_|refine jc ?_|refine jd ?_|refine je ?_|refine jf ?_|refine jg ?_|refine jh ?_|refine ji ?_|refine jj ?_|refine jk ?_|refine jl ?_|refine jm ?_|refine jn ?_|refine jo ?_|refine jp ?_|refine jq ?_|refine jr ?_|refine js ?_|refine jt ?_|refine ju ?_|refine jv ?_|refine jw ?_|refine jx ?_|refine jy ?_|refine jz ?_|refine jA ?_|refine jB ?_|refine jC ?_|refine jD ?_|refine jE ?_|refine jF ?_|refine jG ?_|refine jH ?_|refine jI ?_|refine jJ ?_|refine jK ?_|refine jL ?_|refine jM (by assumption) ?_|refine jN (by assumption) rfl ?_|refine jO (by assumption) ?_|refine jP (by assumption) rfl ?_|refine jQ ?_|refine jR ?_|refine jS ?_|refine jT ?_|refine jU (by assumption) rfl ?_))
    by_cases hkl : k < l.length
    · obtain ⟨y, hy⟩ : ∃ y, l[k]? = some y := ⟨_, List.getElem?_eq_getElem hkl⟩
      have hyi : l[((k : Nat) : Int).toNat]? = some y := by rw [Int.toNat_natCast]; exact hy
      (repeat (first|refine ja ?_|refine jb ?_|refine jc ?_|refine jd ?_|refine je ?_|refine jf ?_|refine jg ?_|refine jh ?_|refine ji ?_|refine jj ?_|refine jk ?_|refine jl ?_|refine jm ?_|refine jn ?_|refine jo ?_|refine jp ?_|refine jq ?_|refine jr ?_|refine js ?_|refine jt ?_|refine ju ?_|refine jv ?_|refine jw ?_|refine jx ?_|refine jy ?_|refine jz ?_|refine jA ?_|refine jB ?_|refine jC ?_|refine jD ?_|refine jE ?_|refine jF ?_|refine jG ?_|refine jH ?_|refine jI ?_|refine jJ ?_|refine jK ?_|refine jL ?_|refine jM (by assumption) ?_|refine jN (by assumption) rfl ?_|refine jO (by assumption) ?_|refine jP (by assumption) rfl ?_|refine jQ ?_|refine jR ?_|refine jS ?_|refine jT ?_|refine jU (by assumption) rfl ?_))
      refine M.idxLL_i hll11 rfl (by omega) hl1 (fun bb2 oo2 u2 hc2 g2 => ?_)
      obtain ⟨A4, c4, rfl, hr4, _⟩ := id g2
      (repeat (first|refine ja ?_|refine jb ?_|refine jc ?_|refine jd ?_|refine je ?_|refine jf ?_|refine jg ?_|refine jh ?_|refine ji ?_|refine jj ?_|refine jk ?_|refine jl ?_|refine jm ?_|refine jn ?_|refine jo ?_|refine jp ?_|refine jq ?_|refine jr ?_|refine js ?_|refine jt ?_|refine ju ?_|refine jv ?_|refine jw ?_|refine jx ?_|refine jy ?_|refine jz ?_|refine jA ?_|refine jB ?_|refine jC ?_|refine jD ?_|refine jE ?_|refine jF ?_|refine jG ?_|refine jH ?_|refine jI ?_|refine jJ ?_|refine jK ?_|refine jL ?_|refine jM (by assumption) ?_|refine jN (by assumption) rfl ?_|refine jO (by assumption) ?_|refine jP (by assumption) rfl ?_|refine jQ ?_|refine jR ?_|refine jS ?_|refine jT ?_|refine jU (by assumption) rfl ?_))
      refine M.idxLV_i hr4 rfl (by omega) (by omega) hyi (fun bb3 oo3 hA3 hc3 => ?_)
      (repeat (first|refine ja ?_|refine jb ?_|refine jc ?_|refine jd ?_|refine je ?_|refine jf ?_|refine jg ?_|refine jh ?_|refine ji ?_|refine jj ?_|refine jk ?_|refine jl ?_|refine jm ?_|refine jn ?_|refine jo ?_|refine jp ?_|refine jq ?_|refine jr ?_|refine js ?_|refine jt ?_|refine ju ?_|refine jv ?_|refine jw ?_|refine jx ?_|refine jy ?_|refine jz ?_|refine jA ?_|refine jB ?_|refine jC ?_|refine jD ?_|refine jE ?_|refine jF ?_|refine jG ?_|refine jH ?_|refine jI ?_|refine jJ ?_|refine jK ?_|refine jL ?_|refine jM (by assumption) ?_|refine jN (by assumption) rfl ?_|refine jO (by assumption) ?_|refine jP (by assumption) rfl ?_|refine jQ ?_|refine jR ?_|refine jS ?_|refine jT ?_|refine jU (by assumption) rfl ?_))
      refine M.call_i (val_tw (h10.keepN k11) y) ?_; rintro _ w12 ⟨rfl, k12⟩
      rw [(hval y (List.mem_of_getElem? hy)).2]
      (repeat (first|refine ja ?_|refine jb ?_|refine jc ?_|refine jd ?_|refine je ?_|refine jf ?_|refine jg ?_|refine jh ?_|refine ji ?_|refine jj ?_|refine jk ?_|refine jl ?_|refine jm ?_|refine jn ?_|refine jo ?_|refine jp ?_|refine jq ?_|refine jr ?_|refine js ?_|refine jt ?_|refine ju ?_|refine jv ?_|refine jw ?_|refine jx ?_|refine jy ?_|refine jz ?_|refine jA ?_|refine jB ?_|refine jC ?_|refine jD ?_|refine jE ?_|refine jF ?_|refine jG ?_|refine jH ?_|refine jI ?_|refine jJ ?_|refine jK ?_|refine jL ?_|refine jM (by assumption) ?_|refine jN (by assumption) rfl ?_|refine jO (by assumption) ?_|refine jP (by assumption) rfl ?_|refine jQ ?_|refine jR ?_|refine jS ?_|refine jT ?_|refine jU (by assumption) rfl ?_|refine jG ?_ (by decide)|refine jH ?_ (by decide)|refine jI ?_ (by decide)|refine jJ ?_ (by decide)|refine jC ?_ (by decide)|refine jy ?_ (by decide)))
      exact hK (k + 1) _ _ (by omega) ⟨rfl, by omega, k11.trans k12 (fun _ _ h => h)⟩
    · (repeat (first|refine ja ?_|refine jb ?_|refine jc ?_|refine jd ?_|refine je ?_|refine jf ?_|refine jg ?_|refine jh ?_|refine ji ?_|refine jj ?_|refine jk ?_|refine jl ?_|refine jm ?_|refine jn ?_|refine jo ?_|refine jp ?_|refine jq ?_|refine jr ?_|refine js ?_|refine jt ?_|refine ju ?_|refine jv ?_|refine jw ?_|refine jx ?_|refine jy ?_|refine jz ?_|refine jA ?_|refine jB ?_|refine jC ?_|refine jD ?_|refine jE ?_|refine jF ?_|refine jG ?_|refine jH ?_|refine jI ?_|refine jJ ?_|refine jK ?_|refine jL ?_|refine jM (by assumption) ?_|refine jN (by assumption) rfl ?_|refine jO (by assumption) ?_|refine jP (by assumption) rfl ?_|refine jQ ?_|refine jR ?_|refine jS ?_|refine jT ?_|refine jU (by assumption) rfl ?_))
      exact ⟨t', s', O', wv', i, false, rfl, h10.keepN k11, m10.trans (OMod.of k11), R⟩
structure Actd (k : Int) (t : Tr) (s : Wt) (x : X11) (t' : Tr) (s' : Wt) (x' : X11) (f : Bool) : Prop where
  inv : ∀ A B C, A ≤ 100000 → Inv t s A B C → Inv t' s' (A + 1) (B + 1) (C + 1)
  vars : x'.vars = x.vars ∧ s'.vars = s.vars
  rel : Rel x s → f = true ∧ Rel x' s'
  ok : OkP x → OkP x'
  len : x'.P.length ≤ x.P.length + 1
  has : k ≠ 1 → ∀ c ∈ s.cls, c ∈ s'.cls
theorem Actd.none {k : Int} {f : Bool} (hf : f = true) : Actd k t s x t s x f :=
  ⟨fun A B C _ h => h.mono (by omega) (by omega) (by omega), ⟨rfl, rfl⟩, fun h => ⟨hf, h⟩, fun h => h, by omega, fun _ c hc => hc⟩
theorem Actd.tr {k : Int} {t' : Tr} (h : ∀ A B C, A ≤ 100000 → Inv t s A B C → Inv t' s (A + 1) B C) : Actd k t s x t' s x true :=
  ⟨fun A B C hA I => (h A B C hA I).mono (by omega) (by omega) (by omega), ⟨rfl, rfl⟩, fun h => ⟨rfl, h⟩, fun h => h, by omega, fun _ c hc => hc⟩
def XRD (w : World) (D : Nat → Prop) (a b : Value) (x : X11) : Prop := LL w D a (x.P.map (·.1)) ∧ LV vb w D b (x.P.map (·.2))
def ActR (p q : Nat) (w : World) (D O : Nat → Prop) (k : Int) (t : Tr) (s : Wt) (x : X11) (v : Value) (w' : World) : Prop :=
  ∃ t' s' x' O' bk' cv' wv' a' b' f, v = .tuple #[.agg ⟨[vi x'.vars, a', b']⟩, .bool f] ∧ TWR w' p q O' bk' cv' wv' t' s' ∧ OMod w w' O O' ∧ XRD w' (fun b => (D b ∨ w.heap.size ≤ b) ∧ ¬ O' b) a' b' x' ∧ Actd k t s x t' s' x' f
theorem XRD.keep {D S : Nat → Prop} {w w' : World} (h : XRD w D a b x) (k : Keep w w' S) (hs : ∀ b, b < w.heap.size → D b → ¬ S b) : XRD w' D a b x := ⟨h.1.keep k hs, h.2.keep k hs⟩
theorem XRD.mono {D D' : Nat → Prop} (h : XRD w D a b x) (hd : ∀ b, b < w.heap.size → D b → D' b) : XRD w D' a b x := ⟨h.1.mono hd, h.2.mono hd⟩
/-- The local structs are none of the trail's or the watch's. -/
theorem OMod.loc {w w1 w2 : World} {O O' : Nat → Prop} (m : OMod w w1 O O') {n : Nat} (k : Keep w1 w2 (· = n)) (hn : w.heap.size ≤ n) : OMod w w2 O O' :=
  ⟨m.1.trans k (fun j hj e => by have e : j = n := e; omega), m.2⟩
def addArm (t : Tr) (s : Wt) (x : X11) (l : List Int) : Prop := (∀ y ∈ l, 0 ≤ y ∧ y < 2 * s.vars) ∧ l.length ≤ 12
theorem Actd.add {k : Int} {l : List Int} {f : Bool} (h : ∀ y ∈ l, 0 ≤ y ∧ y < 2 * s.vars) (hl : l.length ≤ 12) (hxv : x.vars = s.vars) (hf : Rel x s → f = true) : Actd k t s x t (s.add l) (x.add l) f := by
  refine ⟨fun A B C hA I => (I.add h hl).mono (by omega) (Nat.le_refl _) (Nat.le_refl _), ⟨rfl, rfl⟩, fun r => ⟨hf r, r.add l⟩, fun ok p hp => ?_, by simp [X11.add], fun _ c hc => List.mem_append_left _ hc⟩
  rcases List.mem_append.1 hp with hp | hp
  · exact ok p hp
  · simp only [List.mem_singleton] at hp
    subst hp
    exact ⟨hl, fun y hy => by
      show _ ∧ _ < 2 * (x.vars : Int)
      rw [hxv]; exact h y hy⟩
theorem Actd.rem {n : Int} {f : Bool} (hfi : t.Fine) (hwi : (s.cls.map Wc.n).Nodup) (hu : usedB t n = false) (hf : Rel x s → f = true) : Actd 1 t s x t (s.rem n) (x.rem n) f := by
  have hv : (x.rem n).vars = x.vars := by unfold X11.rem; split <;> rfl
  refine ⟨fun A B C hA I => (I.rem hfi hu).mono (by omega) (by omega) (by omega), ⟨hv, rfl⟩, fun r => ⟨hf r, r.rem hwi n⟩, fun ok p hp => ?_, ?_, fun h => absurd rfl h⟩
  · rw [hv]
    unfold X11.rem at hp
    split at hp
    · rcases List.mem_or_eq_of_mem_set hp with hp | hp
      · exact ok p hp
      · subst hp
        rename_i hi
        obtain ⟨_, hlt⟩ := isX_lt hi
        have := ok _ (List.getElem_mem hlt)
        rw [List.getD_eq_getElem?_getD, List.getElem?_eq_getElem hlt]
        exact this
    · exact ok p hp
  · have := congrArg List.length (rem_fst (x := x) n)
    simp only [List.length_map] at this
    omega
set_option maxHeartbeats 4000000 in
theorem act_ret {D : Nat → Prop} (h : TWR w p q O bk cv wv t s) (I : Inv t s nA nB nC) (hA : nA ≤ 100000) (hB : nB ≤ 1000000) (hC : nC ≤ 61) (hDO : ∀ b, b < w.heap.size → D b → ¬ O b) (hx : XRD w D a b x) (hxl : x.P.length ≤ 61) (hxv : x.vars = s.vars) {d : Dd} {u : Value} (hu : LV vi w D u d.l) (hd : d.l.length ≤ 12) (hI : ∀ y ∈ d.l, I64 y) :
    Ret Try.prog 17 #[ptr p, ptr q, .agg ⟨[vi x.vars, a, b]⟩, .agg ⟨[vi d.kind, vi d.n, u]⟩] w (ActR p q w D O d.kind t s x) := by
  have hv40 := I.vars
  have hsv := I.wi.vars
  have hxa := hx.1.one
  have hxb := LV.one hx.2
  have huo := LV.one hu
  have hfi := h.fine
  have hO : ∀ b, O b → b < w.heap.size := fun b e => h.lt e
  refine ok17 _ _ _ _ _ _ ?_
  unfold sh17
  refine M.new_i (l := [vi x.vars, a, b]) (fun w1 b6 k1 s1 => ?_)
  refine M.new_i (l := [vi d.kind, vi d.n, u]) (fun w2 b7 k2 s2 => ?_)
  refine M.new_i (l := [vi 0, .slice none 0 0, .slice none 0 0]) (fun w3 b8 k3 s3 => ?_)
  have b6 := (b6.keep k2 (fun h => h)).keep k3 (fun h => h)
  have b7 := b7.keep k3 (fun h => h)
  have k13 := (k1.trans k2 (fun _ _ h => h)).trans k3 (fun _ _ h => h)
  have h3 := h.keepN k13
  have hu0 := hu.mono (D' := fun b => b < w.heap.size ∧ D b) (fun b hb e => ⟨hb, e⟩)
  have hx0 : XRD w (fun b => b < w.heap.size ∧ D b) a b x := XRD.mono hx (fun b hb e => ⟨hb, e⟩)
  have hu3 := hu0.keep k13 (fun _ _ _ h => h)
  have hx3 := hx0.keep k13 (fun _ _ _ h => h)
  have m3 : OMod w w3 O O := OMod.of k13
  have hO2 : ∀ b, (b < w3.heap.size ∧ ¬ (b < w.heap.size ∧ D b)) → b < w3.heap.size := fun b e => e.1
  have hOO : ∀ b, O b → b < w3.heap.size ∧ ¬ (b < w.heap.size ∧ D b) := fun b e => ⟨by have := hO b e; omega, fun e2 => hDO b e2.1 e2.2 e⟩
  have hx32 : XR w3 (fun b => b < w3.heap.size ∧ ¬ (b < w.heap.size ∧ D b)) a b x := XRD.mono (D' := fun b => ¬ (b < w3.heap.size ∧ ¬ (b < w.heap.size ∧ D b))) hx3 (fun b _ e e2 => e2.2 e)
  have hu32 := hu3.mono (D' := fun b => ¬ (b < w3.heap.size ∧ ¬ (b < w.heap.size ∧ D b))) (fun b _ e e2 => e2.2 e)
  have same : ∀ (w5 : World) (O' : Nat → Prop), OMod w w5 O O' → XRD w5 (fun b => (D b ∨ w.heap.size ≤ b) ∧ ¬ O' b) a b x := fun w5 O' m =>
    (hx0.keep m.1 (fun b hb e e2 => hDO b hb e.2 e2)).mono (fun b _ e => ⟨.inl e.2, fun e2 => hDO b e.1 e.2 (m.2 b e.1 e2)⟩)
  (repeat (first|refine ja ?_|refine jb ?_|refine jc ?_|refine jd ?_|refine je ?_|refine jf ?_|refine jg ?_|refine jh ?_|refine ji ?_|refine jj ?_|refine jk ?_|refine jl ?_|refine jm ?_|refine jn ?_|refine jo ?_|refine jp ?_|refine jq ?_|refine jr ?_|refine js ?_|refine jt ?_|refine ju ?_|refine jv ?_|refine jw ?_|refine jx ?_|refine jy ?_|refine jz ?_|refine jA ?_|refine jB ?_|refine jC ?_|refine jD ?_|refine jE ?_|refine jF ?_|refine jG ?_|refine jH ?_|refine jI ?_|refine jJ ?_|refine jK ?_|refine jL ?_|refine jM (by assumption) ?_|refine jN (by assumption) rfl ?_|refine jO (by assumption) ?_|refine jP (by assumption) rfl ?_|refine jQ ?_|refine jR ?_|refine jS ?_|refine jT ?_|refine jU (by assumption) rfl ?_))
  refine M.share_j (fun vals w' => vals = [] ∧ ∃ t' s' O' bk' cv' wv', TWR w' p q O' bk' cv' wv' t' s' ∧ OMod w w' O O' ∧ ¬ O' w2.heap.size ∧ Blk w' w.heap.size [vi x.vars, a, b] ∧ Blk w' w2.heap.size [vi 0, .slice none 0 0, .slice none 0 0] ∧ Actd d.kind t s x t' s' x true) ?_ ?_
  · rintro vals w4 ⟨rfl, t', s', O', bk', cv', wv', h4, m4, hn, c6, c8, hact⟩ _
    refine M.loadAll_i c6 rfl ?_
    refine M.storeAll_i c8 rfl rfl (by simp only [List.mem_cons, List.not_mem_nil, or_false, forall_eq_or_imp, forall_eq]; exact ⟨rfl, hxa, hxb⟩) (fun w5 b5 k5 s5 => ?_)
    refine M.loadAll_i b5 rfl ?_
    have m5 := m4.loc k5 (by omega)
    exact ⟨t', s', x, O', bk', cv', wv', a, b, true, rfl, h4.keep k5 (fun b hb e e2 => by have e2 : b = w2.heap.size := e2; subst e2; exact hn e), m5, same _ _ m5, hact⟩
  · intro K hK
    have stay : ∀ (w4 : World) (O' : Nat → Prop) (bk' : Nat → Nat) (cv' : Nat → Value) (wv' : Value) (t' : Tr), TWR w4 p q O' bk' cv' wv' t' s → OMod w3 w4 O O' → Actd d.kind t s x t' s x true → K [] w4 := fun w4 O' bk' cv' wv' t' h4 m4 hact =>
      hK _ _ ⟨rfl, t', s, O', bk', cv', wv', h4, m3.trans m4, fun e => by have := hO _ (m4.2 _ (by omega) e); omega, b6.keep m4.1 (fun e => by have := hO _ e; omega), b8.keep m4.1 (fun e => by have := hO _ e; omega), hact⟩
    have fin : ∀ (w4 w5 w7 : World) (x' : X11) (s' : Wt) (O' : Nat → Prop) (bk' : Nat → Nat) (cv' : Nat → Value) (wv' a' b' : Value) (f : Bool) (n : Nat), XR w4 (fun b => b < w3.heap.size ∧ ¬ (b < w.heap.size ∧ D b)) a' b' x' → Keep w3 w4 No → Keep w4 w5 (· = n) → w4.heap.size ≤ n → TWR w7 p q O' bk' cv' wv' t s' → OMod w5 w7 O O' → Actd d.kind t s x t s' x' f → Blk w7 w2.heap.size [vi 0, .slice none 0 0, .slice none 0 0] →
        M.store 3 (ptr w2.heap.size) (.agg ⟨[vi x'.vars, a', b']⟩) (fun _ w8 => M.loadA 3 (ptr w2.heap.size) (fun r0 w' => ActR p q w D O d.kind t s x (.tuple #[r0, .bool f]) w') w8) w7 := by
      intro w4 w5 w7 x' s' O' bk' cv' wv' a' b' f n hx4 k4 k5 hn h7 m7 hact c8
      have q4 := k4.size
      have q5 := k5.size
      refine M.storeAll_i c8 rfl rfl (by simp only [List.mem_cons, List.not_mem_nil, or_false, forall_eq_or_imp, forall_eq]; exact ⟨rfl, hx4.1.one, LV.one hx4.2⟩) (fun w8 c8 k8 s8 => ?_)
      refine M.loadAll_i c8 rfl ?_
      have hD := XRD.mono (D' := fun b => b < w4.heap.size ∧ ¬ (b < w3.heap.size ∧ ¬ (b < w.heap.size ∧ D b))) hx4 (fun b hb e => ⟨hb, e⟩)
      have hD := ((hD.keep k5 (fun b hb e e2 => by have e2 : b = n := e2; omega)).keep m7.1 (fun b hb e e2 => e.2 (hOO b e2))).keep k8 (fun b hb e e2 => e.2 ⟨by have e2 : b = w2.heap.size := e2; omega, fun e3 => by have e2 : b = w2.heap.size := e2; omega⟩)
      refine ⟨t, s', x', O', bk', cv', wv', a', b', f, rfl, h7.keep k8 (fun b hb e e2 => ?_), (((m3.trans (OMod.of k4)).loc k5 (by omega)).trans m7).loc k8 (by omega), hD.mono (fun b hb e => ⟨Classical.byCases (fun h : w.heap.size ≤ b => .inr h) (fun h => .inl (Classical.byContradiction fun hd => e.2 ⟨by omega, fun e3 => hd e3.2⟩)), fun e2 => e.2 (hOO b (m7.2 b (by omega) e2))⟩), hact⟩
      have e2 : b = w2.heap.size := e2
      have := hO _ (m7.2 b (by omega) e)
      omega
    by_cases e0 : d.kind = 0
    · (repeat (first|refine ja ?_|refine jb ?_|refine jc ?_|refine jd ?_|refine je ?_|refine jf ?_|refine jg ?_|refine jh ?_|refine ji ?_|refine jj ?_|refine jk ?_|refine jl ?_|refine jm ?_|refine jn ?_|refine jo ?_|refine jp ?_|refine jq ?_|refine jr ?_|refine js ?_|refine jt ?_|refine ju ?_|refine jv ?_|refine jw ?_|refine jx ?_|refine jy ?_|refine jz ?_|refine jA ?_|refine jB ?_|refine jC ?_|refine jD ?_|refine jE ?_|refine jF ?_|refine jG ?_|refine jH ?_|refine jI ?_|refine jJ ?_|refine jK ?_|refine jL ?_|refine jM (by assumption) ?_|refine jN (by assumption) rfl ?_|refine jO (by assumption) ?_|refine jP (by assumption) rfl ?_|refine jQ ?_|refine jR ?_|refine jS ?_|refine jT ?_|refine jU (by assumption) rfl ?_))
      refine M.loadAll_i b6 rfl ?_
      (repeat (first|refine ja ?_|refine jb ?_|refine jc ?_|refine jd ?_|refine je ?_|refine jf ?_|refine jg ?_|refine jh ?_|refine ji ?_|refine jj ?_|refine jk ?_|refine jl ?_|refine jm ?_|refine jn ?_|refine jo ?_|refine jp ?_|refine jq ?_|refine jr ?_|refine js ?_|refine jt ?_|refine ju ?_|refine jv ?_|refine jw ?_|refine jx ?_|refine jy ?_|refine jz ?_|refine jA ?_|refine jB ?_|refine jC ?_|refine jD ?_|refine jE ?_|refine jF ?_|refine jG ?_|refine jH ?_|refine jI ?_|refine jJ ?_|refine jK ?_|refine jL ?_|refine jM (by assumption) ?_|refine jN (by assumption) rfl ?_|refine jO (by assumption) ?_|refine jP (by assumption) rfl ?_|refine jQ ?_|refine jR ?_|refine jS ?_|refine jT ?_|refine jU (by assumption) rfl ?_))
      refine M.call_i (radd_ret hx32 hO2 hu32 hI (by omega) (by omega) (by omega)) ?_; rintro r4 w4 g4
      rcases g4 with ⟨hok, a', b', rfl, hx4, k4⟩ | ⟨hno, rfl, k4⟩
      · have b7 := b7.keep k4 (fun h => h)
        have b8 := b8.keep k4 (fun h => h)
        refine M.extract_i (v := .agg ⟨[vi x.vars, a', b']⟩) rfl ?_
        refine M.extract_i (v := vi x.P.length) rfl ?_
        refine M.extract_i (v := vi 0) rfl ?_
        refine M.new_i (l := [vi 0, .slice none 0 0, .slice none 0 0]) (fun w5 b10 k5 s5 => ?_)
        have b7 := b7.keep k5 (fun h => h)
        have b8 := b8.keep k5 (fun h => h)
        refine M.storeAll_i b10 rfl rfl (by simp only [List.mem_cons, List.not_mem_nil, or_false, forall_eq_or_imp, forall_eq]; exact ⟨rfl, hx4.1.one, LV.one hx4.2⟩) (fun w6 b10 k6 s6 => ?_)
        have q4 := k4.size
        have b7 := b7.keep k6 (by omega)
        have b8 := b8.keep k6 (by omega)
        have k36 : Keep w3 w6 No := (k4.trans k5 (fun _ _ h => h)).trans k6 (fun j hj e => by have e : j = w4.heap.size := e; omega)
        (repeat (first|refine ja ?_|refine jb ?_|refine jc ?_|refine jd ?_|refine je ?_|refine jf ?_|refine jg ?_|refine jh ?_|refine ji ?_|refine jj ?_|refine jk ?_|refine jl ?_|refine jm ?_|refine jn ?_|refine jo ?_|refine jp ?_|refine jq ?_|refine jr ?_|refine js ?_|refine jt ?_|refine ju ?_|refine jv ?_|refine jw ?_|refine jx ?_|refine jy ?_|refine jz ?_|refine jA ?_|refine jB ?_|refine jC ?_|refine jD ?_|refine jE ?_|refine jF ?_|refine jG ?_|refine jH ?_|refine jI ?_|refine jJ ?_|refine jK ?_|refine jL ?_|refine jM (by assumption) ?_|refine jN (by assumption) rfl ?_|refine jO (by assumption) ?_|refine jP (by assumption) rfl ?_|refine jQ ?_|refine jR ?_|refine jS ?_|refine jT ?_|refine jU (by assumption) rfl ?_))
        refine M.call_i (add_ok (h3.keepN k36) (hu3.keep k36 (fun _ _ _ h => h)) (by omega) hI I.wi.num (by have := I.ev; omega) (by have := I.sz; omega) (by omega) (by rw [← hxv]; exact hok)) ?_; rintro _ w7 ⟨rfl, O', bk', cv', wv', h7, m7⟩
        refine M.extract_i (v := vi s.ever) rfl ?_
        refine M.extract_i (v := vi 0) rfl ?_
        have hs6 : ∀ b, w.heap.size ≤ b → ¬ O b := fun b hb e => by have := hO b e; omega
        have b10 := b10.keep m7.1 (hs6 _ (by omega))
        have b8 := b8.keep m7.1 (hs6 _ (by omega))
        refine M.loadAll_i b10 rfl ?_
        by_cases hE : (x.P.length : Int) = s.ever
        · (repeat (first|refine ja ?_|refine jb ?_|refine jc ?_|refine jd ?_|refine je ?_|refine jf ?_|refine jg ?_|refine jh ?_|refine ji ?_|refine jj ?_|refine jk ?_|refine jl ?_|refine jm ?_|refine jn ?_|refine jo ?_|refine jp ?_|refine jq ?_|refine jr ?_|refine js ?_|refine jt ?_|refine ju ?_|refine jv ?_|refine jw ?_|refine jx ?_|refine jy ?_|refine jz ?_|refine jA ?_|refine jB ?_|refine jC ?_|refine jD ?_|refine jE ?_|refine jF ?_|refine jG ?_|refine jH ?_|refine jI ?_|refine jJ ?_|refine jK ?_|refine jL ?_|refine jM (by assumption) ?_|refine jN (by assumption) rfl ?_|refine jO (by assumption) ?_|refine jP (by assumption) rfl ?_|refine jQ ?_|refine jR ?_|refine jS ?_|refine jT ?_|refine jU (by assumption) rfl ?_|refine jG ?_ (by decide)|refine jH ?_ (by decide)|refine jI ?_ (by decide)|refine jJ ?_ (by decide)|refine jC ?_ (by decide)|refine jy ?_ (by decide)))
          exact fin w4 w6 w7 (x.add d.l) (s.add d.l) O' bk' cv' wv' a' b' true _ hx4 k4 ((k5.mono (fun _ _ e => e.elim)).trans k6 (fun _ _ e => e)) (Nat.le_refl _) h7 m7 (Actd.add (by rw [← hxv]; exact hok) hd hxv (fun _ => rfl)) b8
        · (repeat (first|refine ja ?_|refine jb ?_|refine jc ?_|refine jd ?_|refine je ?_|refine jf ?_|refine jg ?_|refine jh ?_|refine ji ?_|refine jj ?_|refine jk ?_|refine jl ?_|refine jm ?_|refine jn ?_|refine jo ?_|refine jp ?_|refine jq ?_|refine jr ?_|refine js ?_|refine jt ?_|refine ju ?_|refine jv ?_|refine jw ?_|refine jx ?_|refine jy ?_|refine jz ?_|refine jA ?_|refine jB ?_|refine jC ?_|refine jD ?_|refine jE ?_|refine jF ?_|refine jG ?_|refine jH ?_|refine jI ?_|refine jJ ?_|refine jK ?_|refine jL ?_|refine jM (by assumption) ?_|refine jN (by assumption) rfl ?_|refine jO (by assumption) ?_|refine jP (by assumption) rfl ?_|refine jQ ?_|refine jR ?_|refine jS ?_|refine jT ?_|refine jU (by assumption) rfl ?_))
          exact fin w4 w6 w7 (x.add d.l) (s.add d.l) O' bk' cv' wv' a' b' false _ hx4 k4 ((k5.mono (fun _ _ e => e.elim)).trans k6 (fun _ _ e => e)) (Nat.le_refl _) h7 m7 (Actd.add (by rw [← hxv]; exact hok) hd hxv (fun r => absurd (by rw [r.ever]) hE)) b8
      · have b7 := b7.keep k4 (fun h => h)
        have b8 := b8.keep k4 (fun h => h)
        have hx4 := hx32.keepN k4
        refine M.extract_i (v := .agg ⟨[vi x.vars, a, b]⟩) rfl ?_
        refine M.extract_i (v := vi 0) rfl ?_
        refine M.extract_i (v := vi 10) rfl ?_
        refine M.new_i (l := [vi 0, .slice none 0 0, .slice none 0 0]) (fun w5 b10 k5 s5 => ?_)
        have b7 := b7.keep k5 (fun h => h)
        have b8 := b8.keep k5 (fun h => h)
        refine M.storeAll_i b10 rfl rfl (by simp only [List.mem_cons, List.not_mem_nil, or_false, forall_eq_or_imp, forall_eq]; exact ⟨rfl, hx4.1.one, LV.one hx4.2⟩) (fun w6 b10 k6 s6 => ?_)
        have q4 := k4.size
        have b7 := b7.keep k6 (by omega)
        have b8 := b8.keep k6 (by omega)
        have k36 : Keep w3 w6 No := (k4.trans k5 (fun _ _ h => h)).trans k6 (fun j hj e => by have e : j = w4.heap.size := e; omega)
        (repeat (first|refine ja ?_|refine jb ?_|refine jc ?_|refine jd ?_|refine je ?_|refine jf ?_|refine jg ?_|refine jh ?_|refine ji ?_|refine jj ?_|refine jk ?_|refine jl ?_|refine jm ?_|refine jn ?_|refine jo ?_|refine jp ?_|refine jq ?_|refine jr ?_|refine js ?_|refine jt ?_|refine ju ?_|refine jv ?_|refine jw ?_|refine jx ?_|refine jy ?_|refine jz ?_|refine jA ?_|refine jB ?_|refine jC ?_|refine jD ?_|refine jE ?_|refine jF ?_|refine jG ?_|refine jH ?_|refine jI ?_|refine jJ ?_|refine jK ?_|refine jL ?_|refine jM (by assumption) ?_|refine jN (by assumption) rfl ?_|refine jO (by assumption) ?_|refine jP (by assumption) rfl ?_|refine jQ ?_|refine jR ?_|refine jS ?_|refine jT ?_|refine jU (by assumption) rfl ?_))
        refine M.call_i (add_no (h3.keepN k36) (hu3.keep k36 (fun _ _ _ h => h)) (by omega) hI I.wi.num (by have := I.ev; omega) (by have := I.sz; omega) (by omega) (by rw [← hxv]; exact hno)) ?_; rintro _ w7 ⟨rfl, k7⟩
        refine M.extract_i (v := vi 0) rfl ?_
        refine M.extract_i (v := vi 10) rfl ?_
        have b10 := b10.keep k7 (fun h => h)
        have b8 := b8.keep k7 (fun h => h)
        refine M.loadAll_i b10 rfl ?_
        (repeat (first|refine ja ?_|refine jb ?_|refine jc ?_|refine jd ?_|refine je ?_|refine jf ?_|refine jg ?_|refine jh ?_|refine ji ?_|refine jj ?_|refine jk ?_|refine jl ?_|refine jm ?_|refine jn ?_|refine jo ?_|refine jp ?_|refine jq ?_|refine jr ?_|refine js ?_|refine jt ?_|refine ju ?_|refine jv ?_|refine jw ?_|refine jx ?_|refine jy ?_|refine jz ?_|refine jA ?_|refine jB ?_|refine jC ?_|refine jD ?_|refine jE ?_|refine jF ?_|refine jG ?_|refine jH ?_|refine jI ?_|refine jJ ?_|refine jK ?_|refine jL ?_|refine jM (by assumption) ?_|refine jN (by assumption) rfl ?_|refine jO (by assumption) ?_|refine jP (by assumption) rfl ?_|refine jQ ?_|refine jR ?_|refine jS ?_|refine jT ?_|refine jU (by assumption) rfl ?_|refine jG ?_ (by decide)|refine jH ?_ (by decide)|refine jI ?_ (by decide)|refine jJ ?_ (by decide)|refine jC ?_ (by decide)|refine jy ?_ (by decide)))
        exact fin w4 w6 w7 x s O _ _ _ a b true _ hx4 k4 ((k5.mono (fun _ _ e => e.elim)).trans k6 (fun _ _ e => e)) (Nat.le_refl _) ((h3.keepN k36).keepN k7) (OMod.of k7) (Actd.none rfl) b8
    by_cases e1 : d.kind = 1
    · (repeat (first|refine ja ?_|refine jb ?_|refine jc ?_|refine jd ?_|refine je ?_|refine jf ?_|refine jg ?_|refine jh ?_|refine ji ?_|refine jj ?_|refine jk ?_|refine jl ?_|refine jm ?_|refine jn ?_|refine jo ?_|refine jp ?_|refine jq ?_|refine jr ?_|refine js ?_|refine jt ?_|refine ju ?_|refine jv ?_|refine jw ?_|refine jx ?_|refine jy ?_|refine jz ?_|refine jA ?_|refine jB ?_|refine jC ?_|refine jD ?_|refine jE ?_|refine jF ?_|refine jG ?_|refine jH ?_|refine jI ?_|refine jJ ?_|refine jK ?_|refine jL ?_|refine jM (by assumption) ?_|refine jN (by assumption) rfl ?_|refine jO (by assumption) ?_|refine jP (by assumption) rfl ?_|refine jQ ?_|refine jR ?_|refine jS ?_|refine jT ?_|refine jU (by assumption) rfl ?_))
      refine M.call_i (used_ret h3 d.n) ?_; rintro _ w4 ⟨rfl, k4⟩
      have b6 := b6.keep k4 (fun h => h)
      have b7 := b7.keep k4 (fun h => h)
      have b8 := b8.keep k4 (fun h => h)
      have h4 := h3.keepN k4
      have hx42 := hx32.keepN k4
      have q4 := k4.size
      cases hu : usedB t d.n with
      | true =>
        (repeat (first|refine ja ?_|refine jb ?_|refine jc ?_|refine jd ?_|refine je ?_|refine jf ?_|refine jg ?_|refine jh ?_|refine ji ?_|refine jj ?_|refine jk ?_|refine jl ?_|refine jm ?_|refine jn ?_|refine jo ?_|refine jp ?_|refine jq ?_|refine jr ?_|refine js ?_|refine jt ?_|refine ju ?_|refine jv ?_|refine jw ?_|refine jx ?_|refine jy ?_|refine jz ?_|refine jA ?_|refine jB ?_|refine jC ?_|refine jD ?_|refine jE ?_|refine jF ?_|refine jG ?_|refine jH ?_|refine jI ?_|refine jJ ?_|refine jK ?_|refine jL ?_|refine jM (by assumption) ?_|refine jN (by assumption) rfl ?_|refine jO (by assumption) ?_|refine jP (by assumption) rfl ?_|refine jQ ?_|refine jR ?_|refine jS ?_|refine jT ?_|refine jU (by assumption) rfl ?_))
        refine M.loadAll_i b6 rfl ?_
        refine M.storeAll_i b8 rfl rfl (by simp only [List.mem_cons, List.not_mem_nil, or_false, forall_eq_or_imp, forall_eq]; exact ⟨rfl, hxa, hxb⟩) (fun w5 b5 k5 s5 => ?_)
        refine M.loadAll_i b5 rfl ?_
        have m5 := (m3.trans (OMod.of k4)).loc k5 (by omega)
        exact ⟨t, s, x, O, _, _, _, a, b, true, rfl, h4.keep k5 (fun b hb e e2 => by have e2 : b = w2.heap.size := e2; have := hO _ e; omega), m5, same _ _ m5, Actd.none rfl⟩
      | false =>
        (repeat (first|refine ja ?_|refine jb ?_|refine jc ?_|refine jd ?_|refine je ?_|refine jf ?_|refine jg ?_|refine jh ?_|refine ji ?_|refine jj ?_|refine jk ?_|refine jl ?_|refine jm ?_|refine jn ?_|refine jo ?_|refine jp ?_|refine jq ?_|refine jr ?_|refine js ?_|refine jt ?_|refine ju ?_|refine jv ?_|refine jw ?_|refine jx ?_|refine jy ?_|refine jz ?_|refine jA ?_|refine jB ?_|refine jC ?_|refine jD ?_|refine jE ?_|refine jF ?_|refine jG ?_|refine jH ?_|refine jI ?_|refine jJ ?_|refine jK ?_|refine jL ?_|refine jM (by assumption) ?_|refine jN (by assumption) rfl ?_|refine jO (by assumption) ?_|refine jP (by assumption) rfl ?_|refine jQ ?_|refine jR ?_|refine jS ?_|refine jT ?_|refine jU (by assumption) rfl ?_))
        refine M.loadAll_i b6 rfl ?_
        (repeat (first|refine ja ?_|refine jb ?_|refine jc ?_|refine jd ?_|refine je ?_|refine jf ?_|refine jg ?_|refine jh ?_|refine ji ?_|refine jj ?_|refine jk ?_|refine jl ?_|refine jm ?_|refine jn ?_|refine jo ?_|refine jp ?_|refine jq ?_|refine jr ?_|refine js ?_|refine jt ?_|refine ju ?_|refine jv ?_|refine jw ?_|refine jx ?_|refine jy ?_|refine jz ?_|refine jA ?_|refine jB ?_|refine jC ?_|refine jD ?_|refine jE ?_|refine jF ?_|refine jG ?_|refine jH ?_|refine jI ?_|refine jJ ?_|refine jK ?_|refine jL ?_|refine jM (by assumption) ?_|refine jN (by assumption) rfl ?_|refine jO (by assumption) ?_|refine jP (by assumption) rfl ?_|refine jQ ?_|refine jR ?_|refine jS ?_|refine jT ?_|refine jU (by assumption) rfl ?_))
        refine M.call_i (rrem_ret hx42 (fun b e => by have := hO2 b e; omega) (by omega) d.n) ?_; rintro _ w5 ⟨b', rfl, hx5, k5⟩
        have b7 := b7.keep k5 (fun h => h)
        have b8 := b8.keep k5 (fun h => h)
        have q5 := k5.size
        refine M.extract_i (v := .agg ⟨[vi x.vars, a, b']⟩) rfl ?_
        refine M.extract_i (v := .bool (isX x d.n)) rfl ?_
        refine M.new_i (l := [vi 0, .slice none 0 0, .slice none 0 0]) (fun w6 b15 k6 s6 => ?_)
        have b7 := b7.keep k6 (fun h => h)
        have b8 := b8.keep k6 (fun h => h)
        refine M.storeAll_i b15 rfl rfl (by simp only [List.mem_cons, List.not_mem_nil, or_false, forall_eq_or_imp, forall_eq]; exact ⟨rfl, hx5.1.one, LV.one hx5.2⟩) (fun w7 b15 k7 s7 => ?_)
        have b7 := b7.keep k7 (by omega)
        have b8 := b8.keep k7 (by omega)
        have kd := Keep.drew w7 No
        have b7 := b7.keep kd (fun h => h)
        have b8 := b8.keep kd (fun h => h)
        have b15 := b15.keep kd (fun h => h)
        have k7d := k7.to_drew
        have k57 : Keep w5 w7.drew (· = w5.heap.size) := (k6.mono (fun _ _ e => e.elim)).trans k7d (fun _ _ e => e)
        have k45 : Keep w4 w7.drew No := k5.trans k57 (fun j hj e => by have e : j = w5.heap.size := e; omega)
        (repeat (first|refine ja ?_|refine jb ?_|refine jc ?_|refine jd ?_|refine je ?_|refine jf ?_|refine jg ?_|refine jh ?_|refine ji ?_|refine jj ?_|refine jk ?_|refine jl ?_|refine jm ?_|refine jn ?_|refine jo ?_|refine jp ?_|refine jq ?_|refine jr ?_|refine js ?_|refine jt ?_|refine ju ?_|refine jv ?_|refine jw ?_|refine jx ?_|refine jy ?_|refine jz ?_|refine jA ?_|refine jB ?_|refine jC ?_|refine jD ?_|refine jE ?_|refine jF ?_|refine jG ?_|refine jH ?_|refine jI ?_|refine jJ ?_|refine jK ?_|refine jL ?_|refine jM (by assumption) ?_|refine jN (by assumption) rfl ?_|refine jO (by assumption) ?_|refine jP (by assumption) rfl ?_|refine jQ ?_|refine jR ?_|refine jS ?_|refine jT ?_|refine jU (by assumption) rfl ?_))
        refine M.loadAll_i b15 rfl ?_
        (repeat (first|refine ja ?_|refine jb ?_|refine jc ?_|refine jd ?_|refine je ?_|refine jf ?_|refine jg ?_|refine jh ?_|refine ji ?_|refine jj ?_|refine jk ?_|refine jl ?_|refine jm ?_|refine jn ?_|refine jo ?_|refine jp ?_|refine jq ?_|refine jr ?_|refine js ?_|refine jt ?_|refine ju ?_|refine jv ?_|refine jw ?_|refine jx ?_|refine jy ?_|refine jz ?_|refine jA ?_|refine jB ?_|refine jC ?_|refine jD ?_|refine jE ?_|refine jF ?_|refine jG ?_|refine jH ?_|refine jI ?_|refine jJ ?_|refine jK ?_|refine jL ?_|refine jM (by assumption) ?_|refine jN (by assumption) rfl ?_|refine jO (by assumption) ?_|refine jP (by assumption) rfl ?_|refine jQ ?_|refine jR ?_|refine jS ?_|refine jT ?_|refine jU (by assumption) rfl ?_))
        refine M.call_i (rem_ret (h4.keepN k45) d.n) ?_; rintro _ w8 ⟨rfl, h8, k8⟩
        have hs6 : ∀ b, w.heap.size ≤ b → ¬ O b := fun b hb e => by have := hO b e; omega
        have b15 := b15.keep k8 (hs6 _ (by omega))
        have b8 := b8.keep k8 (hs6 _ (by omega))
        (repeat (first|refine ja ?_|refine jb ?_|refine jc ?_|refine jd ?_|refine je ?_|refine jf ?_|refine jg ?_|refine jh ?_|refine ji ?_|refine jj ?_|refine jk ?_|refine jl ?_|refine jm ?_|refine jn ?_|refine jo ?_|refine jp ?_|refine jq ?_|refine jr ?_|refine js ?_|refine jt ?_|refine ju ?_|refine jv ?_|refine jw ?_|refine jx ?_|refine jy ?_|refine jz ?_|refine jA ?_|refine jB ?_|refine jC ?_|refine jD ?_|refine jE ?_|refine jF ?_|refine jG ?_|refine jH ?_|refine jI ?_|refine jJ ?_|refine jK ?_|refine jL ?_|refine jM (by assumption) ?_|refine jN (by assumption) rfl ?_|refine jO (by assumption) ?_|refine jP (by assumption) rfl ?_|refine jQ ?_|refine jR ?_|refine jS ?_|refine jT ?_|refine jU (by assumption) rfl ?_))
        refine M.eqB_i ?_
        have hv : (x.rem d.n).vars = x.vars := by unfold X11.rem; split <;> rfl
        have g := fin w5 w7.drew w8 (x.rem d.n) (s.rem d.n) O _ _ _ a b' (xor false ((s.get d.n).isSome == isX x d.n)) _ hx5 (k4.trans k5 (fun _ _ h => h)) k57 (Nat.le_refl _) h8 ⟨k8, fun _ _ e => e⟩ (by rw [e1]; exact Actd.rem hfi I.wi.nod hu (fun r => by rw [r.get I.wi.nod]; simp)) b8
        rw [hv] at g
        exact g
    by_cases e2 : d.kind = 2
    · (repeat (first|refine ja ?_|refine jb ?_|refine jc ?_|refine jd ?_|refine je ?_|refine jf ?_|refine jg ?_|refine jh ?_|refine ji ?_|refine jj ?_|refine jk ?_|refine jl ?_|refine jm ?_|refine jn ?_|refine jo ?_|refine jp ?_|refine jq ?_|refine jr ?_|refine js ?_|refine jt ?_|refine ju ?_|refine jv ?_|refine jw ?_|refine jx ?_|refine jy ?_|refine jz ?_|refine jA ?_|refine jB ?_|refine jC ?_|refine jD ?_|refine jE ?_|refine jF ?_|refine jG ?_|refine jH ?_|refine jI ?_|refine jJ ?_|refine jK ?_|refine jL ?_|refine jM (by assumption) ?_|refine jN (by assumption) rfl ?_|refine jO (by assumption) ?_|refine jP (by assumption) rfl ?_|refine jQ ?_|refine jR ?_|refine jS ?_|refine jT ?_|refine jU (by assumption) rfl ?_))
      refine M.loadAll_i b7 rfl ?_
      refine M.call_i (first11_ret hu3) ?_; rintro _ w4 ⟨rfl, k4⟩
      refine M.call_i (dec_tw (h3.keepN k4) I.wf (firstD d.l)) ?_; rintro _ w5 ⟨rfl, O5, h5, m5⟩
      exact stay _ _ _ _ _ _ h5 ((OMod.of k4).trans m5) (Actd.tr (fun A B C hA I => I.dec hfi hA _))
    by_cases e3 : d.kind = 3
    · (repeat (first|refine ja ?_|refine jb ?_|refine jc ?_|refine jd ?_|refine je ?_|refine jf ?_|refine jg ?_|refine jh ?_|refine ji ?_|refine jj ?_|refine jk ?_|refine jl ?_|refine jm ?_|refine jn ?_|refine jo ?_|refine jp ?_|refine jq ?_|refine jr ?_|refine js ?_|refine jt ?_|refine ju ?_|refine jv ?_|refine jw ?_|refine jx ?_|refine jy ?_|refine jz ?_|refine jA ?_|refine jB ?_|refine jC ?_|refine jD ?_|refine jE ?_|refine jF ?_|refine jG ?_|refine jH ?_|refine jI ?_|refine jJ ?_|refine jK ?_|refine jL ?_|refine jM (by assumption) ?_|refine jN (by assumption) rfl ?_|refine jO (by assumption) ?_|refine jP (by assumption) rfl ?_|refine jQ ?_|refine jR ?_|refine jS ?_|refine jT ?_|refine jU (by assumption) rfl ?_))
      refine M.call_i (back_tw h3 d.n) ?_; rintro _ w5 ⟨_, h5, k5⟩
      exact stay _ _ _ _ _ _ h5 ⟨k5, fun _ _ e => e⟩ (Actd.tr (fun A B C hA I => (I.back hfi _).mono (by omega) (Nat.le_refl _) (Nat.le_refl _)))
    by_cases e4 : d.kind = 4
    · (repeat (first|refine ja ?_|refine jb ?_|refine jc ?_|refine jd ?_|refine je ?_|refine jf ?_|refine jg ?_|refine jh ?_|refine ji ?_|refine jj ?_|refine jk ?_|refine jl ?_|refine jm ?_|refine jn ?_|refine jo ?_|refine jp ?_|refine jq ?_|refine jr ?_|refine js ?_|refine jt ?_|refine ju ?_|refine jv ?_|refine jw ?_|refine jx ?_|refine jy ?_|refine jz ?_|refine jA ?_|refine jB ?_|refine jC ?_|refine jD ?_|refine jE ?_|refine jF ?_|refine jG ?_|refine jH ?_|refine jI ?_|refine jJ ?_|refine jK ?_|refine jL ?_|refine jM (by assumption) ?_|refine jN (by assumption) rfl ?_|refine jO (by assumption) ?_|refine jP (by assumption) rfl ?_|refine jQ ?_|refine jR ?_|refine jS ?_|refine jT ?_|refine jU (by assumption) rfl ?_))
      refine M.loadAll_i b7 rfl ?_
      refine M.call_i (first11_ret hu3) ?_; rintro _ w4 ⟨rfl, k4⟩
      refine M.call_i (asg_tw (h3.keepN k4) (firstD d.l) (-1)) ?_; rintro _ w5 ⟨rfl, O5, h5, m5⟩
      exact stay _ _ _ _ _ _ h5 ((OMod.of k4).trans m5) (Actd.tr (fun A B C hA I => I.asg hfi hA _))
    · (repeat (first|refine ja ?_|refine jb ?_|refine jc ?_|refine jd ?_|refine je ?_|refine jf ?_|refine jg ?_|refine jh ?_|refine ji ?_|refine jj ?_|refine jk ?_|refine jl ?_|refine jm ?_|refine jn ?_|refine jo ?_|refine jp ?_|refine jq ?_|refine jr ?_|refine js ?_|refine jt ?_|refine ju ?_|refine jv ?_|refine jw ?_|refine jx ?_|refine jy ?_|refine jz ?_|refine jA ?_|refine jB ?_|refine jC ?_|refine jD ?_|refine jE ?_|refine jF ?_|refine jG ?_|refine jH ?_|refine jI ?_|refine jJ ?_|refine jK ?_|refine jL ?_|refine jM (by assumption) ?_|refine jN (by assumption) rfl ?_|refine jO (by assumption) ?_|refine jP (by assumption) rfl ?_|refine jQ ?_|refine jR ?_|refine jS ?_|refine jT ?_|refine jU (by assumption) rfl ?_))
      exact stay _ _ _ _ _ _ h3 (OMod.refl _ _) (Actd.none rfl)
end
end Go.Proofs.Ytnkechekdncnlaa
