import Derived.Test.YtanjlgafjgoaaaaSt37n
import Derived.Test.YtanjlgafjgoaaaaLaw36p
namespace Go.Proofs.Ytanjlgafjgoaaaa
open Go.Mw
set_option linter.unusedVariables false
set_option linter.unusedSimpArgs false
set_option maxRecDepth 100000
attribute [local irreducible] M.val M.unit M.next M.pick M.new M.nilCheck M.load1 M.loadA M.store M.fieldAddr M.indexSl M.indexArr M.slice M.makeSlice M.buildSlice M.len M.lenS M.cap M.append M.extract M.conv M.not M.neg M.bin M.shift M.eqB M.eqNil M.scat M.call M.callv M.gd M.share M.cond M.loop M.draw pureW readW Ret
/-! breakwater/breakwaterlaw37.Few: function 4 -/
def sh4 (x0 : Value) (R : Kt) (w : World) : Prop :=
  M.new 25 (Value.cells x0) (fun t1 w =>
  M.fieldAddr 0 t1 (fun t3 w =>
  M.load1 t3 (fun t4 w =>
  M.len t4 (fun t5 w =>
  M.bin .gtr t5 (Value.int IntKind.i64 70) (fun t6 w =>
  M.gd t6 false (fun k w => M.fieldAddr 1 t1 k w) (fun t8 w =>
  M.gd t6 false (fun k w => M.load1 t8 k w) (fun t9 w =>
  M.gd t6 false (fun k w => M.len t9 k w) (fun t10 w =>
  M.gd t6 false (fun k w => M.bin .gtr t10 (Value.int IntKind.i64 10) k w) (fun t11 w =>
  M.pick t6 (Value.bool true) t11 (fun t12 w =>
  M.gd t12 false (fun k w => M.fieldAddr 2 t1 k w) (fun t14 w =>
  M.gd t12 false (fun k w => M.load1 t14 k w) (fun t15 w =>
  M.gd t12 false (fun k w => M.bin .gtr t15 (Value.int IntKind.i64 10) k w) (fun t16 w =>
  M.pick t12 (Value.bool true) t16 (fun t17 w =>
  M.gd t17 false (fun k w => M.fieldAddr 3 t1 k w) (fun t19 w =>
  M.gd t17 false (fun k w => M.load1 t19 k w) (fun t20 w =>
  M.gd t17 false (fun k w => M.bin .gtr t20 (Value.int IntKind.i64 10) k w) (fun t21 w =>
  M.pick t17 (Value.bool true) t21 (fun t22 w =>
  M.gd t22 false (fun k w => M.fieldAddr 4 t1 k w) (fun t24 w =>
  M.gd t22 false (fun k w => M.load1 t24 k w) (fun t25 w =>
  M.gd t22 false (fun k w => M.bin .gtr t25 (Value.int IntKind.i64 10) k w) (fun t26 w =>
  M.pick t22 (Value.bool true) t26 (fun t27 w =>
  M.cond t27
  (R (Value.int IntKind.i64 0) w)
  (R (Value.int IntKind.i64 1) w)) w) w) w) w) w) w) w) w) w) w) w) w) w) w) w) w) w) w) w) w) w) w
theorem ok4 (x0 : Value) (R : Kt) (w : World) (h : sh4 x0 R w) : Ret Try.prog 4 #[x0] w R :=
  ret_mk <| calls_of_comp mixed (c := Try.f4.body.getD .skip) (args := [x0]) (rs := [(ResultVar.tmp 2)]) (Ann.seq Ann.text (Ann.seq (Ann.seq Ann.text (Ann.cond (Ann.seq Ann.text Ann.leaf) Ann.leaf)) (Ann.seq Ann.text Ann.leaf)))
    Try.func4 (by kernel_rfl) (by kernel_rfl)
    (Eq.mp (by kernel_rfl) h)
/-! breakwater/breakwaterlaw37.SstepBad: function 3 -/
def sh3 (x0 x1 x2 : Value) (R : Kt) (w : World) : Prop :=
  M.new 25 (Value.cells x0) (fun t3 w =>
  M.loadA 5 t3 (fun t21 w =>
  M.call Try.prog 4 #[t21] (fun t22 w =>
  M.bin .eql t22 (Value.int IntKind.i64 0) (fun t23 w =>
  M.cond t23
  (M.call Try.prog 5 #[] (fun t24 w =>
  R t24 w) w)
  (M.call Try.prog 6 #[(Value.int IntKind.i64 1000)] (fun t25 w =>
  M.eqNil 0 false t25 (fun t27 w =>
  M.cond t27
  (R (Value.bool false) w)
  (M.call Try.prog 7 #[t25, (Value.int IntKind.i64 8), (Value.int IntKind.u64 1)] (fun t30 w =>
  M.extract 0 t30 (fun t31 w =>
  M.extract 1 t30 (fun t32 w =>
  M.fieldAddr 1 t3 (fun t35 w =>
  M.load1 t35 (fun t36 w =>
  M.call Try.prog 8 #[t25, t36] (fun t37 w =>
  M.extract 0 t37 (fun t38 w =>
  M.extract 1 t37 (fun t39 w =>
  M.new 37 #[.slice none 0 0, .slice none 0 0, .int .i64 0] (fun t10 w =>
  M.store 3 t10 t38 (fun _ w =>
  M.loadA 3 t10 (fun t42 w =>
  M.fieldAddr 2 t3 (fun t43 w =>
  M.load1 t43 (fun t44 w =>
  M.call Try.prog 9 #[t25, t42, t44, (Value.slice none 0 0)] (fun t45 w =>
  M.extract 0 t45 (fun t46 w =>
  M.extract 1 t45 (fun t47 w =>
  M.new 42 #[.int .i64 0, .int .i64 0, .int .i64 0, .int .i64 0, .int .i64 0, .int .i64 0, .int .i64 0, .int .i64 0, .slice none 0 0, .int .i64 0, .int .i64 0, .int .i64 0, .int .i64 0, .int .i64 0, .int .i64 0, .slice none 0 0, .slice none 0 0, .int .i64 0, .slice none 0 0] (fun t12 w =>
  M.store 19 t12 t46 (fun _ w =>
  M.loadA 19 t12 (fun t48 w =>
  M.new 42 #[.int .i64 0, .int .i64 0, .int .i64 0, .int .i64 0, .int .i64 0, .int .i64 0, .int .i64 0, .int .i64 0, .slice none 0 0, .int .i64 0, .int .i64 0, .int .i64 0, .int .i64 0, .int .i64 0, .int .i64 0, .slice none 0 0, .slice none 0 0, .int .i64 0, .slice none 0 0] (fun t14 w =>
  M.store 19 t14 t48 (fun _ w =>
  M.fieldAddr 12 t14 (fun t49 w =>
  M.store 1 t49 (Value.int IntKind.i64 3) (fun _ w =>
  M.fieldAddr 0 t3 (fun t52 w =>
  M.load1 t52 (fun t53 w =>
  M.loadA 19 t14 (fun t54 w =>
  M.fieldAddr 3 t3 (fun t55 w =>
  M.load1 t55 (fun t56 w =>
  M.fieldAddr 4 t3 (fun t57 w =>
  M.load1 t57 (fun t58 w =>
  M.call Try.prog 10 #[t25, t53, t54, t56, t58] (fun t59 w =>
  M.extract 0 t59 (fun t60 w =>
  M.extract 1 t59 (fun t61 w =>
  M.share (fun K1 w =>
  M.bin .geq x2 (Value.int IntKind.i64 0) (fun t63 w =>
  M.gd t63 true (fun k w => k x2 w) (fun t65 w =>
  M.gd t63 true (fun k w => k t25 w) (fun t66 w =>
  M.gd t63 true (fun k w => M.call Try.prog 11 #[t66] k w) (fun t67 w =>
  M.gd t63 true (fun k w => M.bin .lss t65 t67 k w) (fun t68 w =>
  M.pick t63 t68 (Value.bool false) (fun t69 w =>
  M.cond t69
  (K1 [(Value.int IntKind.i64 (-1))] w)
  (K1 [x2] w)) w) w) w) w) w) w) (fun s1 w => ∀ _ : List Value,
  M.loadA 19 t12 (fun t70 w =>
  M.store 19 t14 t70 (fun _ w =>
  M.bin .rem x1 (Value.int IntKind.u8 8) (fun t72 w =>
  M.fieldAddr 0 t14 (fun t74 w =>
  M.indexArr 8 1 t74 t72 (fun t75 w =>
  M.store 1 t75 (s1.getD 0 undef) (fun _ w =>
  M.fieldAddr 0 t3 (fun t78 w =>
  M.load1 t78 (fun t79 w =>
  M.loadA 19 t14 (fun t80 w =>
  M.fieldAddr 3 t3 (fun t81 w =>
  M.load1 t81 (fun t82 w =>
  M.fieldAddr 4 t3 (fun t83 w =>
  M.load1 t83 (fun t84 w =>
  M.call Try.prog 10 #[t25, t79, t80, t82, t84] (fun t85 w =>
  M.extract 0 t85 (fun t86 w =>
  M.extract 1 t85 (fun t87 w =>
  M.bin .rem x1 (Value.int IntKind.u8 8) (fun t89 w =>
  M.fieldAddr 0 t14 (fun t91 w =>
  M.indexArr 8 1 t91 t89 (fun t92 w =>
  M.store 1 t92 t31 (fun _ w =>
  M.fieldAddr 0 t3 (fun t95 w =>
  M.load1 t95 (fun t96 w =>
  M.loadA 19 t14 (fun t97 w =>
  M.fieldAddr 3 t3 (fun t98 w =>
  M.load1 t98 (fun t99 w =>
  M.fieldAddr 4 t3 (fun t100 w =>
  M.load1 t100 (fun t101 w =>
  M.call Try.prog 10 #[t25, t96, t97, t99, t101] (fun t102 w =>
  M.extract 0 t102 (fun t103 w =>
  M.extract 1 t102 (fun t104 w =>
  M.len t60 (fun t106 w =>
  M.bin .eql t106 (Value.int IntKind.i64 0) (fun t107 w =>
  M.gd t107 true (fun k w => k t61 w) (fun t109 w =>
  M.gd t107 true (fun k w => M.bin .eql t109 (Value.int IntKind.i64 0) k w) (fun t110 w =>
  M.pick t107 t110 (Value.bool false) (fun t111 w =>
  M.gd t111 true (fun k w => k t86 w) (fun t113 w =>
  M.gd t111 true (fun k w => M.len t113 k w) (fun t114 w =>
  M.gd t111 true (fun k w => M.bin .eql t114 (Value.int IntKind.i64 0) k w) (fun t115 w =>
  M.pick t111 t115 (Value.bool false) (fun t116 w =>
  M.gd t116 true (fun k w => k t87 w) (fun t118 w =>
  M.gd t116 true (fun k w => M.bin .eql t118 (Value.int IntKind.i64 11) k w) (fun t119 w =>
  M.pick t116 t119 (Value.bool false) (fun t120 w =>
  M.gd t120 true (fun k w => k t103 w) (fun t122 w =>
  M.gd t120 true (fun k w => M.len t122 k w) (fun t123 w =>
  M.gd t120 true (fun k w => M.bin .eql t123 (Value.int IntKind.i64 0) k w) (fun t124 w =>
  M.pick t120 t124 (Value.bool false) (fun t125 w =>
  M.gd t125 true (fun k w => k t104 w) (fun t127 w =>
  M.gd t125 true (fun k w => M.bin .eql t127 (Value.int IntKind.i64 11) k w) (fun t128 w =>
  M.pick t125 t128 (Value.bool false) (fun t129 w =>
  M.gd t129 true (fun k w => M.call Try.prog 5 #[] k w) (fun t131 w =>
  M.pick t129 t131 (Value.bool false) (fun t132 w =>
  R t132 w) w) w) w) w) w) w) w) w) w) w) w) w) w) w) w) w) w) w) w) w) w) w) w) w) w) w) w) w) w) w) w) w) w) w) w) w) w) w) w) w) w) w) w) w) w) w) w) w) w) w) w) w) w) w) w) w) w) w) w) w) w) w) w) w) w) w) w) w) w) w) w) w) w) w) w) w) w) w) w) w) w) w) w) w) w)) w) w)) w) w) w) w
theorem ok3 (x0 x1 x2 : Value) (R : Kt) (w : World) (h : sh3 x0 x1 x2 R w) : Ret Try.prog 3 #[x0, x1, x2] w R :=
  ret_mk <| calls_of_comp mixed (c := Try.f3.body.getD .skip) (args := [x0, x1, x2]) (rs := [(ResultVar.tmp 6)]) (Ann.seq Ann.text (Ann.seq (Ann.seq Ann.text (Ann.cond (Ann.seq Ann.text Ann.leaf) Ann.leaf)) (Ann.seq Ann.text (Ann.seq (Ann.seq Ann.text (Ann.cond (Ann.seq Ann.text Ann.leaf) Ann.leaf)) (Ann.seq Ann.text (Ann.seq Ann.text (Ann.seq Ann.text (Ann.seq Ann.text (Ann.seq Ann.text (Ann.seq Ann.text (Ann.join [2] [62, 63, 64, 65, 66, 67, 68, 69] (Ann.seq Ann.text (Ann.cond Ann.text Ann.leaf)) (Ann.seq Ann.text (Ann.seq Ann.text (Ann.seq Ann.text (Ann.seq Ann.text (Ann.seq Ann.text (Ann.seq Ann.text Ann.leaf)))))))))))))))))
    Try.func3 (by kernel_rfl) (by kernel_rfl)
    (Eq.mp (by kernel_rfl) h)

theorem constN_len (most : Int) (N : List Nd) (x : W64) : (constN most N 64 x).1.length ≤ N.length + 1 := by
  unfold constN
  rw [if_pos (by decide)]
  unfold madeN
  split
  · exact Nat.le_succ _
  · split
    · exact Nat.le_succ _
    · simp
theorem devN_facts (most : Int) : ∀ (xs : List W64) (N : List Nd) (acc : List Int), GoodN N → (∃ M, (devN most N xs acc).1 = N ++ M) ∧ (devN most N xs acc).1.length ≤ N.length + xs.length ∧ (devN most N xs acc).2.1.length ≤ acc.length + xs.length
  | [], N, acc, _ => ⟨⟨[], by simp [devN]⟩, by simp [devN], by simp [devN]⟩
  | x :: xs, N, acc, hG => by
    have ha := ask_const (most := most) hG 64 x
    obtain ⟨M, hM⟩ := ha.pre
    have hl := constN_len most N x
    unfold devN
    split
    · obtain ⟨⟨M2, h1⟩, h2, h3⟩ := devN_facts most xs (constN most N 64 x).1 (acc ++ [(constN most N 64 x).2.1]) ha.good
      refine ⟨⟨M ++ M2, by rw [h1, hM, List.append_assoc]⟩, by simp only [List.length_cons]; omega, ?_⟩
      rw [List.length_append, List.length_singleton] at h3
      simp only [List.length_cons]; omega
    · exact ⟨⟨M, hM⟩, by simp only [List.length_cons]; omega, by simp⟩
/-- A play. -/
def PlO (w : World) (v : Value) (code : List Ins) (blocks : List W64) (n inputs most : Int) : Prop :=
  ∃ A c B cb, v = .agg ⟨[.slice A code.length c, .slice B blocks.length cb, vi n, vi inputs, vi most]⟩ ∧ Row w (· < w.heap.size) A (code.flatMap Ins.cells) ∧ code.length ≤ c ∧ Row w (· < w.heap.size) B (blocks.map vw) ∧ blocks.length ≤ cb
theorem few37_ret {w : World} {v : Value} {code : List Ins} {blocks : List W64} {n inputs most : Int} (h : PlO w v code blocks n inputs most) :
    Ret Try.prog 4 #[v] w (fun r w' => ∃ z : Int, r = vi z ∧ (z = 0 ∨ (z = 1 ∧ code.length ≤ 70 ∧ blocks.length ≤ 10 ∧ n ≤ 10 ∧ inputs ≤ 10 ∧ most ≤ 10)) ∧ Keep w w' No) := by
  obtain ⟨A, c, B, cb, rfl, _⟩ := h
  refine ok4 _ _ _ ?_
  unfold sh4
  refine M.new_i (l := [.slice A code.length c, .slice B blocks.length cb, vi n, vi inputs, vi most]) (fun w1 b1 k1 s1 => ?_)
  by_cases h1 : 70 < code.length
  · (repeat (first|refine ja ?_|refine jb ?_|refine jc ?_|refine jd ?_|refine je ?_|refine jf ?_|refine jg ?_|refine jh ?_|refine ji ?_|refine jj ?_|refine jk ?_|refine jl ?_|refine jm ?_|refine jn ?_|refine jo ?_|refine jp ?_|refine jq ?_|refine jr ?_|refine js ?_|refine jt ?_|refine ju ?_|refine jv ?_|refine jw ?_|refine jx ?_|refine jy ?_|refine jz ?_|refine jA ?_|refine jB ?_|refine jC ?_|refine jD ?_|refine jE ?_|refine jF ?_|refine jG ?_|refine jH ?_|refine jI ?_|refine jJ ?_|refine jK ?_|refine jL ?_|refine jM (by assumption) ?_|refine jN (by assumption) rfl ?_|refine jO (by assumption) ?_|refine jP (by assumption) rfl ?_|refine jQ ?_|refine jR ?_|refine jS ?_|refine jT ?_|refine jU (by assumption) rfl ?_))
    exact ⟨0, rfl, .inl rfl, k1⟩
  by_cases h2 : 10 < blocks.length
  · (repeat (first|refine ja ?_|refine jb ?_|refine jc ?_|refine jd ?_|refine je ?_|refine jf ?_|refine jg ?_|refine jh ?_|refine ji ?_|refine jj ?_|refine jk ?_|refine jl ?_|refine jm ?_|refine jn ?_|refine jo ?_|refine jp ?_|refine jq ?_|refine jr ?_|refine js ?_|refine jt ?_|refine ju ?_|refine jv ?_|refine jw ?_|refine jx ?_|refine jy ?_|refine jz ?_|refine jA ?_|refine jB ?_|refine jC ?_|refine jD ?_|refine jE ?_|refine jF ?_|refine jG ?_|refine jH ?_|refine jI ?_|refine jJ ?_|refine jK ?_|refine jL ?_|refine jM (by assumption) ?_|refine jN (by assumption) rfl ?_|refine jO (by assumption) ?_|refine jP (by assumption) rfl ?_|refine jQ ?_|refine jR ?_|refine jS ?_|refine jT ?_|refine jU (by assumption) rfl ?_))
    exact ⟨0, rfl, .inl rfl, k1⟩
  by_cases h3 : 10 < n
  · (repeat (first|refine ja ?_|refine jb ?_|refine jc ?_|refine jd ?_|refine je ?_|refine jf ?_|refine jg ?_|refine jh ?_|refine ji ?_|refine jj ?_|refine jk ?_|refine jl ?_|refine jm ?_|refine jn ?_|refine jo ?_|refine jp ?_|refine jq ?_|refine jr ?_|refine js ?_|refine jt ?_|refine ju ?_|refine jv ?_|refine jw ?_|refine jx ?_|refine jy ?_|refine jz ?_|refine jA ?_|refine jB ?_|refine jC ?_|refine jD ?_|refine jE ?_|refine jF ?_|refine jG ?_|refine jH ?_|refine jI ?_|refine jJ ?_|refine jK ?_|refine jL ?_|refine jM (by assumption) ?_|refine jN (by assumption) rfl ?_|refine jO (by assumption) ?_|refine jP (by assumption) rfl ?_|refine jQ ?_|refine jR ?_|refine jS ?_|refine jT ?_|refine jU (by assumption) rfl ?_))
    exact ⟨0, rfl, .inl rfl, k1⟩
  by_cases h4 : 10 < inputs
  · (repeat (first|refine ja ?_|refine jb ?_|refine jc ?_|refine jd ?_|refine je ?_|refine jf ?_|refine jg ?_|refine jh ?_|refine ji ?_|refine jj ?_|refine jk ?_|refine jl ?_|refine jm ?_|refine jn ?_|refine jo ?_|refine jp ?_|refine jq ?_|refine jr ?_|refine js ?_|refine jt ?_|refine ju ?_|refine jv ?_|refine jw ?_|refine jx ?_|refine jy ?_|refine jz ?_|refine jA ?_|refine jB ?_|refine jC ?_|refine jD ?_|refine jE ?_|refine jF ?_|refine jG ?_|refine jH ?_|refine jI ?_|refine jJ ?_|refine jK ?_|refine jL ?_|refine jM (by assumption) ?_|refine jN (by assumption) rfl ?_|refine jO (by assumption) ?_|refine jP (by assumption) rfl ?_|refine jQ ?_|refine jR ?_|refine jS ?_|refine jT ?_|refine jU (by assumption) rfl ?_))
    exact ⟨0, rfl, .inl rfl, k1⟩
  by_cases h5 : 10 < most
  · (repeat (first|refine ja ?_|refine jb ?_|refine jc ?_|refine jd ?_|refine je ?_|refine jf ?_|refine jg ?_|refine jh ?_|refine ji ?_|refine jj ?_|refine jk ?_|refine jl ?_|refine jm ?_|refine jn ?_|refine jo ?_|refine jp ?_|refine jq ?_|refine jr ?_|refine js ?_|refine jt ?_|refine ju ?_|refine jv ?_|refine jw ?_|refine jx ?_|refine jy ?_|refine jz ?_|refine jA ?_|refine jB ?_|refine jC ?_|refine jD ?_|refine jE ?_|refine jF ?_|refine jG ?_|refine jH ?_|refine jI ?_|refine jJ ?_|refine jK ?_|refine jL ?_|refine jM (by assumption) ?_|refine jN (by assumption) rfl ?_|refine jO (by assumption) ?_|refine jP (by assumption) rfl ?_|refine jQ ?_|refine jR ?_|refine jS ?_|refine jT ?_|refine jU (by assumption) rfl ?_))
    exact ⟨0, rfl, .inl rfl, k1⟩
  · (repeat (first|refine ja ?_|refine jb ?_|refine jc ?_|refine jd ?_|refine je ?_|refine jf ?_|refine jg ?_|refine jh ?_|refine ji ?_|refine jj ?_|refine jk ?_|refine jl ?_|refine jm ?_|refine jn ?_|refine jo ?_|refine jp ?_|refine jq ?_|refine jr ?_|refine js ?_|refine jt ?_|refine ju ?_|refine jv ?_|refine jw ?_|refine jx ?_|refine jy ?_|refine jz ?_|refine jA ?_|refine jB ?_|refine jC ?_|refine jD ?_|refine jE ?_|refine jF ?_|refine jG ?_|refine jH ?_|refine jI ?_|refine jJ ?_|refine jK ?_|refine jL ?_|refine jM (by assumption) ?_|refine jN (by assumption) rfl ?_|refine jO (by assumption) ?_|refine jP (by assumption) rfl ?_|refine jQ ?_|refine jR ?_|refine jS ?_|refine jT ?_|refine jU (by assumption) rfl ?_))
    exact ⟨1, rfl, .inr ⟨rfl, by omega, by omega, by omega, by omega, by omega⟩, k1⟩
theorem fine_not {N : List Nd} {s : Sy} {k : Nat} {id : Int} (h8 : s.regs.length = 8) (hk : k < 8) (hw : wdN N id ≠ 64) : fineN N { s with regs := s.regs.set k id } = false := by
  unfold fineN
  rw [List.all_eq_false]
  refine ⟨id, ?_, by simpa using hw⟩
  have : id ∈ s.regs.set k id := by
    rw [List.mem_iff_getElem?]
    exact ⟨k, by rw [List.getElem?_set_self (by omega)]⟩
  simp only [List.append_assoc, List.mem_append]
  exact .inl this
theorem rem8_i {k : Kt} {w : World} {n : Nat} (h : k (.int .u8 ((n % 8 : Nat) : Int)) w) : M.bin .rem (.int .u8 (n : Int)) (.int .u8 8) k w := by
  refine M.bin_i (v := .int .u8 ((n % 8 : Nat) : Int)) ?_ h
  simp only [ibin]
  rw [if_neg (by omega), Int.tmod_eq_emod_of_nonneg (by omega)]
  congr 2
set_option maxHeartbeats 8000000 in
theorem sstepBad_ret {w : World} {v : Value} {code : List Ins} {blocks : List W64} {n inputs mw bad : Int} {at_ : Nat} (h : PlO w v code blocks n inputs mw) :
    Ret Try.prog 3 #[v, .int .u8 (at_ : Int), vi bad] w (fun r w' => r = .bool true ∧ Keep w w' No) := by
  obtain ⟨A, cA, B, cB, rfl, hrA, hcA, hrB, hcB⟩ := id h
  refine ok3 _ _ _ _ _ ?_
  unfold sh3
  refine M.new_i (l := [.slice A code.length cA, .slice B blocks.length cB, vi n, vi inputs, vi mw]) (fun w1 b1 k1 s1 => ?_)
  refine M.loadAll_i b1 rfl ?_
  have h1 : PlO w1 (.agg ⟨[.slice A code.length cA, .slice B blocks.length cB, vi n, vi inputs, vi mw]⟩) code blocks n inputs mw := by
    have q1 := k1.size
    exact ⟨A, cA, B, cB, rfl, (hrA.keep k1 (fun _ _ _ h => h)).mono (fun x _ h => by omega), hcA, (hrB.keep k1 (fun _ _ _ h => h)).mono (fun x _ h => by omega), hcB⟩
  refine M.call_i (few37_ret h1) ?_
  rintro _ w2 ⟨z, rfl, hz, k2⟩
  have b2 := b1.keep k2 (fun h => h)
  have k02 := k1.trans k2 (fun _ _ h => h)
  rcases hz with rfl | ⟨rfl, g1, g2, g3, g4, g5⟩
  · (repeat (first|refine ja ?_|refine jb ?_|refine jc ?_|refine jd ?_|refine je ?_|refine jf ?_|refine jg ?_|refine jh ?_|refine ji ?_|refine jj ?_|refine jk ?_|refine jl ?_|refine jm ?_|refine jn ?_|refine jo ?_|refine jp ?_|refine jq ?_|refine jr ?_|refine js ?_|refine jt ?_|refine ju ?_|refine jv ?_|refine jw ?_|refine jx ?_|refine jy ?_|refine jz ?_|refine jA ?_|refine jB ?_|refine jC ?_|refine jD ?_|refine jE ?_|refine jF ?_|refine jG ?_|refine jH ?_|refine jI ?_|refine jJ ?_|refine jK ?_|refine jL ?_|refine jM (by assumption) ?_|refine jN (by assumption) rfl ?_|refine jO (by assumption) ?_|refine jP (by assumption) rfl ?_|refine jQ ?_|refine jR ?_|refine jS ?_|refine jT ?_|refine jU (by assumption) rfl ?_))
    refine M.call_i (awake37_ret w2) ?_; rintro _ w3 ⟨rfl, k3⟩
    exact ⟨rfl, k02.trans k3 (fun _ _ h => h)⟩
  (repeat (first|refine ja ?_|refine jb ?_|refine jc ?_|refine jd ?_|refine je ?_|refine jf ?_|refine jg ?_|refine jh ?_|refine ji ?_|refine jj ?_|refine jk ?_|refine jl ?_|refine jm ?_|refine jn ?_|refine jo ?_|refine jp ?_|refine jq ?_|refine jr ?_|refine js ?_|refine jt ?_|refine ju ?_|refine jv ?_|refine jw ?_|refine jx ?_|refine jy ?_|refine jz ?_|refine jA ?_|refine jB ?_|refine jC ?_|refine jD ?_|refine jE ?_|refine jF ?_|refine jG ?_|refine jH ?_|refine jI ?_|refine jJ ?_|refine jK ?_|refine jL ?_|refine jM (by assumption) ?_|refine jN (by assumption) rfl ?_|refine jO (by assumption) ?_|refine jP (by assumption) rfl ?_|refine jQ ?_|refine jR ?_|refine jS ?_|refine jT ?_|refine jU (by assumption) rfl ?_))
  refine M.call_i (new_ret 1000 w2) ?_; rintro _ w3 ⟨F3, p, rfl, hd3, hF3, k3⟩
  rw [if_neg (by omega)] at hd3
  (repeat (first|refine ja ?_|refine jb ?_|refine jc ?_|refine jd ?_|refine je ?_|refine jf ?_|refine jg ?_|refine jh ?_|refine ji ?_|refine jj ?_|refine jk ?_|refine jl ?_|refine jm ?_|refine jn ?_|refine jo ?_|refine jp ?_|refine jq ?_|refine jr ?_|refine js ?_|refine jt ?_|refine ju ?_|refine jv ?_|refine jw ?_|refine jx ?_|refine jy ?_|refine jz ?_|refine jA ?_|refine jB ?_|refine jC ?_|refine jD ?_|refine jE ?_|refine jF ?_|refine jG ?_|refine jH ?_|refine jI ?_|refine jJ ?_|refine jK ?_|refine jL ?_|refine jM (by assumption) ?_|refine jN (by assumption) rfl ?_|refine jO (by assumption) ?_|refine jP (by assumption) rfl ?_|refine jQ ?_|refine jR ?_|refine jS ?_|refine jT ?_|refine jU (by assumption) rfl ?_))
  have c0 : constN 1000 [] 8 1 = ([⟨20, 8, 0, 0, 0, 1⟩], 0, 0) := by kernel_rfl
  refine M.call_i (const_ret hd3 8 1) ?_; rintro _ w4 ⟨F4, rfl, hd4, hF4, k4⟩
  rw [c0] at hd4 ⊢
  refine M.extract_i (v := vi 0) rfl ?_
  refine M.extract_i (v := vi 0) rfl ?_
  have q3 := k02.trans k3 (fun _ _ h => h)
  have hlow4 : ∀ x, x < w2.heap.size → ¬ F4 x := fun x hx hf => by
    have := k3.size
    have := hF3 x (hF4 x (by omega) hf)
    omega
  have k04 : Keep w w4 No := q3.trans k4 (fun x hx hf => by have := hF3 x hf; have := k02.size; omega)
  have hb2 := b2.lt
  have b4 : Blk w4 w.heap.size _ := (b2.keep k3 (fun h => h)).keep k4 (fun hf => by have := hF3 _ hf; omega)
  (repeat (first|refine ja ?_|refine jb ?_|refine jc ?_|refine jd ?_|refine je ?_|refine jf ?_|refine jg ?_|refine jh ?_|refine ji ?_|refine jj ?_|refine jk ?_|refine jl ?_|refine jm ?_|refine jn ?_|refine jo ?_|refine jp ?_|refine jq ?_|refine jr ?_|refine js ?_|refine jt ?_|refine ju ?_|refine jv ?_|refine jw ?_|refine jx ?_|refine jy ?_|refine jz ?_|refine jA ?_|refine jB ?_|refine jC ?_|refine jD ?_|refine jE ?_|refine jF ?_|refine jG ?_|refine jH ?_|refine jI ?_|refine jJ ?_|refine jK ?_|refine jL ?_|refine jM (by assumption) ?_|refine jN (by assumption) rfl ?_|refine jO (by assumption) ?_|refine jP (by assumption) rfl ?_|refine jQ ?_|refine jR ?_|refine jS ?_|refine jT ?_|refine jU (by assumption) rfl ?_))
  have hB4 : LV vw w4 (fun x => ¬ F4 x) (.slice B blocks.length cB) blocks := ⟨B, cB, rfl, (hrB.keep k04 (fun _ _ _ h => h)).mono (fun x _ hx => hlow4 x (by have := k02.size; omega)), hcB⟩
  refine M.call_i (device_ret hd4 hB4 (by omega) (fun _ h => h)) ?_; rintro _ w5 ⟨F5, a5, rfl, hd5, hF5, k5, l5⟩
  obtain ⟨⟨M5, eM5⟩, hl5, hi5⟩ := devN_facts 1000 blocks [⟨20, 8, 0, 0, 0, 1⟩] [] hd4.good
  generalize devN 1000 [⟨20, 8, 0, 0, 0, 1⟩] blocks [] = dv at hd5 l5 eM5 hl5 hi5 ⊢
  simp only [List.length_singleton, List.length_nil, Nat.zero_add] at hl5 hi5
  refine M.extract_i (v := .agg ⟨[a5, .slice none 0 0, vi 0]⟩) rfl ?_
  refine M.extract_i (v := vi dv.2.2) rfl ?_
  have hlow5 : ∀ x, x < w2.heap.size → ¬ F5 x := fun x hx hf => hlow4 x hx (hF5 x (by have := k3.size; have := k4.size; omega) hf)
  have k05 : Keep w w5 No := k04.trans k5 (fun x hx hf => hlow4 x (by have := k02.size; omega) hf)
  have b5 := b4.keep k5 (hlow4 _ hb2)
  refine M.new_i (l := [.slice none 0 0, .slice none 0 0, vi 0]) (fun w6 d6 k6 s6 => ?_)
  have b6 := b5.keep k6 (fun h => h)
  have hb5 := b5.lt
  refine M.storeAll_i (vs := [a5, .slice none 0 0, vi 0]) d6 rfl rfl (by
    simp only [List.mem_cons, List.not_mem_nil, or_false, forall_eq_or_imp, forall_eq]
    exact ⟨LV.one l5, rfl, rfl⟩) (fun w7 d7 k7 s7 => ?_)
  have b7 := b6.keep k7 (fun e => by have e : w.heap.size = w5.heap.size := e; omega)
  have k57 : Keep w5 w7 No := k6.trans k7 (fun x hx e => by have e : x = w5.heap.size := e; omega)
  have k07 := k05.trans k57 (fun _ _ h => h)
  have hd7 := hd5.keepN k57
  have l7 : LV vi w7 (fun x => ¬ F5 x) a5 dv.2.1 := (l5.keep k57 (fun _ _ _ h => h)).mono (fun x _ h => h.2)
  refine M.loadAll_i d7 rfl ?_
  (repeat (first|refine ja ?_|refine jb ?_|refine jc ?_|refine jd ?_|refine je ?_|refine jf ?_|refine jg ?_|refine jh ?_|refine ji ?_|refine jj ?_|refine jk ?_|refine jl ?_|refine jm ?_|refine jn ?_|refine jo ?_|refine jp ?_|refine jq ?_|refine jr ?_|refine js ?_|refine jt ?_|refine ju ?_|refine jv ?_|refine jw ?_|refine jx ?_|refine jy ?_|refine jz ?_|refine jA ?_|refine jB ?_|refine jC ?_|refine jD ?_|refine jE ?_|refine jF ?_|refine jG ?_|refine jH ?_|refine jI ?_|refine jJ ?_|refine jK ?_|refine jL ?_|refine jM (by assumption) ?_|refine jN (by assumption) rfl ?_|refine jO (by assumption) ?_|refine jP (by assumption) rfl ?_|refine jQ ?_|refine jR ?_|refine jS ?_|refine jT ?_|refine jU (by assumption) rfl ?_))
  have hv7 : SDvO w7 (fun x => ¬ F5 x) a5 (.slice none 0 0) ⟨dv.2.1, [], 0⟩ := ⟨l7, LN.nil _ _ _⟩
  have hc64 := const_at (most := 1000) hd5.good (by omega) 0
  refine M.call_i (sstart_ret (d := ⟨dv.2.1, [], 0⟩) hd7 hv7 (LV.nil vi w7 (fun x => ¬ F5 x)) (fun _ h => h) n hc64.1) ?_; rintro _ w8 ⟨F8, v8, rfl, hd8, hF8, k8, hs8⟩
  obtain ⟨M8, eM8⟩ := hc64.2.2.1
  generalize constN 1000 dv.1 64 0 = cz at hd8 hs8 eM8 ⊢
  refine M.extract_i (v := v8) rfl ?_
  refine M.extract_i (v := vi 0) rfl ?_
  have hlow8 : ∀ x, x < w2.heap.size → ¬ F8 x := fun x hx hf => hlow5 x hx (hF8 x (by have := k3.size; have := k4.size; have := k5.size; have := k57.size; omega) hf)
  have k08 : Keep w w8 No := k07.trans k8 (fun x hx hf => hlow5 x (by have := k02.size; omega) hf)
  have b8 := b7.keep k8 (hlow5 _ hb2)
  have hs8 := hs8.mono (D' := fun x => ¬ F8 x ∧ x < w8.heap.size) (fun x hx hf => ⟨hf.2, hx⟩)
  have e0 : cz.1 = [⟨20, 8, 0, 0, 0, 1⟩] ++ (M5 ++ M8) := by rw [eM8, eM5, List.append_assoc]
  have hw0 : wdN cz.1 0 = 8 := by
    have : cz.1[0]? = some ⟨20, 8, 0, 0, 0, 1⟩ := by rw [e0]; rfl
    exact wdN_at (i := 0) this
  obtain ⟨h8, c, a, b, d, rfl, lc, ldv, lcd⟩ := hs8
  have o1 := LV.one lc
  have o2 := LV.one ldv.1
  have o3 := LN.one ldv.2
  have o4 := LV.one lcd
  generalize cz.2.1 = z at h8 lc ldv lcd ⊢
  have hcel : (List.replicate (cellsOk n) z).length ≤ 255 := by
    rw [List.length_replicate]; unfold cellsOk; split <;> omega
  generalize List.replicate (cellsOk n) z = cel at h8 lc ldv lcd hcel ⊢
  generalize hs0 : (⟨List.replicate 8 z, cel, 0, 0, 0, 0, 0, -1, ⟨dv.2.1, [], 0⟩, []⟩ : Sy) = s0 at h8 lc ldv lcd ⊢
  have L8 : L3 w8 (fun x => ¬ F8 x ∧ x < w8.heap.size) c a b d s0 := ⟨lc, ldv, lcd⟩
  have hBnd : ∀ t : Sy, t.pc = s0.pc → t.calls = s0.calls → t.dev = s0.dev → t.cells = s0.cells → t.conds = s0.conds → t.steps = s0.steps → Bnd t ∧ (0 ≤ t.steps ∧ t.steps ≤ 1000000) := fun t e1 e2 e3 e4 e5 e6 => by
    subst hs0
    refine ⟨⟨?_, ?_, ?_, ?_, ?_, ?_, ?_⟩, ?_⟩
    · rw [e1]; show (0:Int) ≤ 0 ∧ (0:Int) ≤ 1000000; decide
    · rw [e2]; show (0:Int) ≤ 0 ∧ (0:Int) ≤ 1000000; decide
    · rw [e3]; show (0:Int) ≤ 0 ∧ (0:Int) ≤ 1000000; decide
    · rw [e4]; show cel.length ≤ 100000; omega
    · rw [e3]; show dv.2.1.length ≤ 100000; omega
    · rw [e3]; show (0 : Nat) ≤ 100000; omega
    · rw [e5]; show (0 : Nat) ≤ 1000000; omega
    · rw [e6]; show (0:Int) ≤ 0 ∧ (0:Int) ≤ 1000000; decide
  have hen0 : s0.en = 0 := by subst hs0; rfl
  have hl19 := vals_len (s := s0) (c := c) (a := a) (b := b) (d := d) h8
  refine M.new_i (l := zSy) (fun w9 t9 k9 s9 => ?_)
  refine M.storeAll_i t9 hl19 rfl (vals_one o1 o2 o3 o4) (fun w10 t10 k10 s10 => ?_)
  refine M.loadAll_i t10 hl19 ?_
  refine M.new_i (l := zSy) (fun w11 u11 k11 s11 => ?_)
  have t11 := t10.keep k11 (fun h => h)
  have hTU : w8.heap.size ≠ w10.heap.size := by omega
  refine M.storeAll_i u11 hl19 rfl (vals_one o1 o2 o3 o4) (fun w12 u12 k12 s12 => ?_)
  have t12 := t11.keep k12 hTU
  (repeat (first|refine ja ?_|refine jb ?_|refine jc ?_|refine jd ?_|refine je ?_|refine jf ?_|refine jg ?_|refine jh ?_|refine ji ?_|refine jj ?_|refine jk ?_|refine jl ?_|refine jm ?_|refine jn ?_|refine jo ?_|refine jp ?_|refine jq ?_|refine jr ?_|refine js ?_|refine jt ?_|refine ju ?_|refine jv ?_|refine jw ?_|refine jx ?_|refine jy ?_|refine jz ?_|refine jA ?_|refine jB ?_|refine jC ?_|refine jD ?_|refine jE ?_|refine jF ?_|refine jG ?_|refine jH ?_|refine jI ?_|refine jJ ?_|refine jK ?_|refine jL ?_|refine jM (by assumption) ?_|refine jN (by assumption) rfl ?_|refine jO (by assumption) ?_|refine jP (by assumption) rfl ?_|refine jQ ?_|refine jR ?_|refine jS ?_|refine jT ?_|refine jU (by assumption) rfl ?_))
  refine M.store_i u12 (by rw [hl19]; omega) rfl (fun w13 u13 k13 s13 => ?_)
  have t13 := t12.keep k13 hTU
  have ev13 : (s0.vals c a b d).set (0 + 12) (vi 3) = ({ s0 with en := 3 } : Sy).vals c a b d := by
    unfold Sy.vals
    rw [List.set_append_right _ _ (by simp [h8])]
    simp [h8]
  rw [ev13] at u13
  have k813 : Keep w8 w13 No := ((((k9.trans k10 (fun x hx e => by have e : x = w8.heap.size := e; omega)).trans k11 (fun _ _ h => h)).trans k12 (fun x hx e => by have e : x = w10.heap.size := e; omega))).trans k13 (fun x hx e => by have e : x = w10.heap.size := e; omega)
  have k013 := k08.trans k813 (fun _ _ h => h)
  have b13 := b8.keep k813 (fun h => h)
  have hd13 := hd8.keepN k813
  have L13 : L3 w13 (fun x => ¬ F8 x ∧ (x ≠ w8.heap.size ∧ x ≠ w10.heap.size)) c a b d s0 := (L8.mono (fun x hx h => ⟨h.1, by have := h.2; omega, by have := h.2; omega⟩)).keep k813 (fun _ _ _ h => h)
  have nT8 : ¬ F8 w8.heap.size := fun h => by have := hd8.lt h; omega
  have nU8 : ¬ F8 w10.heap.size := fun h => by have := hd8.lt h; omega
  have hq8 := k08.size
  have hb8 := b8.lt
  have hcodeK : ∀ {w' : World}, Keep w w' No → LN Ins.cells w' (· < w.heap.size) (.slice A code.length cA) code := fun k' => ⟨A, cA, rfl, hrA.keep k' (fun _ _ _ h => h), hcA⟩
  -- one that has an end
  (repeat (first|refine ja ?_|refine jb ?_|refine jc ?_|refine jd ?_|refine je ?_|refine jf ?_|refine jg ?_|refine jh ?_|refine ji ?_|refine jj ?_|refine jk ?_|refine jl ?_|refine jm ?_|refine jn ?_|refine jo ?_|refine jp ?_|refine jq ?_|refine jr ?_|refine js ?_|refine jt ?_|refine ju ?_|refine jv ?_|refine jw ?_|refine jx ?_|refine jy ?_|refine jz ?_|refine jA ?_|refine jB ?_|refine jC ?_|refine jD ?_|refine jE ?_|refine jF ?_|refine jG ?_|refine jH ?_|refine jI ?_|refine jJ ?_|refine jK ?_|refine jL ?_|refine jM (by assumption) ?_|refine jN (by assumption) rfl ?_|refine jO (by assumption) ?_|refine jP (by assumption) rfl ?_|refine jQ ?_|refine jR ?_|refine jS ?_|refine jT ?_|refine jU (by assumption) rfl ?_))
  refine M.loadAll_i u13 (vals_len (s := { s0 with en := 3 }) h8) ?_
  (repeat (first|refine ja ?_|refine jb ?_|refine jc ?_|refine jd ?_|refine je ?_|refine jf ?_|refine jg ?_|refine jh ?_|refine ji ?_|refine jj ?_|refine jk ?_|refine jl ?_|refine jm ?_|refine jn ?_|refine jo ?_|refine jp ?_|refine jq ?_|refine jr ?_|refine js ?_|refine jt ?_|refine ju ?_|refine jv ?_|refine jw ?_|refine jx ?_|refine jy ?_|refine jz ?_|refine jA ?_|refine jB ?_|refine jC ?_|refine jD ?_|refine jE ?_|refine jF ?_|refine jG ?_|refine jH ?_|refine jI ?_|refine jJ ?_|refine jK ?_|refine jL ?_|refine jM (by assumption) ?_|refine jN (by assumption) rfl ?_|refine jO (by assumption) ?_|refine jP (by assumption) rfl ?_|refine jQ ?_|refine jR ?_|refine jS ?_|refine jT ?_|refine jU (by assumption) rfl ?_))
  have hs13 : SyO w13 (fun x => ¬ F8 x) (.agg ⟨({ s0 with en := 3 } : Sy).vals c a b d⟩) { s0 with en := 3 } := (SyO.of3 (t := { s0 with en := 3 }) h8 L13 rfl rfl rfl).mono (fun x _ h => h.1)
  have st1 : stepN 1000 cz.1 code { s0 with en := 3 } inputs mw = (cz.1, 0, []) := by
    unfold stepN
    rw [if_pos (show (3 : Int) ≠ 0 by decide)]
  obtain ⟨hB1, hS1⟩ := hBnd { s0 with en := 3 } rfl rfl rfl rfl rfl rfl
  refine M.call_i (Step37_ok hd13 (hcodeK k013) (by omega) hs13 hB1 hS1 (by omega) st1) ?_; rintro _ w14 ⟨F14, v14, rfl, hd14, hF14, k14, hO14⟩
  refine M.extract_i (v := v14) rfl ?_
  refine M.extract_i (v := vi 0) rfl ?_
  obtain ⟨A14, cp14, cs14, e14, _⟩ := hO14
  have e14 : v14 = .slice A14 0 cp14 := e14
  have q13 := k813.size
  have q14 := k14.size
  have nT14 : ¬ F14 w8.heap.size := fun h => nT8 (hF14 _ (by have := t13.lt; omega) h)
  have nU14 : ¬ F14 w10.heap.size := fun h => nU8 (hF14 _ (by have := u13.lt; omega) h)
  have hlow14 : ∀ x, x < w2.heap.size → ¬ F14 x := fun x hx h => hlow8 x hx (hF14 x (by have := k3.size; have := k4.size; have := k5.size; have := k57.size; have := k8.size; omega) h)
  have k014 : Keep w w14 No := k013.trans k14 (fun x hx h => hlow8 x (by have := k02.size; omega) h)
  have b14 := b13.keep k14 (hlow8 _ hb2)
  have t14 := t13.keep k14 nT8
  have u14 := u13.keep k14 nU8
  have L14 := L13.stepF k14 hF14
  have hd14 : DagO w14 F14 p cz.1 1000 := hd14
  -- the term that is none
  refine M.share_j (fun vals w' => ∃ bad' : Int, vals = [vi bad'] ∧ isN cz.1 bad' = false ∧ w14 = w') ?_ ?_
  case refine_2 =>
    intro K hK
    by_cases hb0 : 0 ≤ bad
    · by_cases hbl : bad < (cz.1.length : Int)
      · (repeat (first|refine ja ?_|refine jb ?_|refine jc ?_|refine jd ?_|refine je ?_|refine jf ?_|refine jg ?_|refine jh ?_|refine ji ?_|refine jj ?_|refine jk ?_|refine jl ?_|refine jm ?_|refine jn ?_|refine jo ?_|refine jp ?_|refine jq ?_|refine jr ?_|refine js ?_|refine jt ?_|refine ju ?_|refine jv ?_|refine jw ?_|refine jx ?_|refine jy ?_|refine jz ?_|refine jA ?_|refine jB ?_|refine jC ?_|refine jD ?_|refine jE ?_|refine jF ?_|refine jG ?_|refine jH ?_|refine jI ?_|refine jJ ?_|refine jK ?_|refine jL ?_|refine jM (by assumption) ?_|refine jN (by assumption) rfl ?_|refine jO (by assumption) ?_|refine jP (by assumption) rfl ?_|refine jQ ?_|refine jR ?_|refine jS ?_|refine jT ?_|refine jU (by assumption) rfl ?_))
        refine M.call_i (hd14.dlen) ?_; rintro _ wx ⟨rfl, rfl⟩
        (repeat (first|refine ja ?_|refine jb ?_|refine jc ?_|refine jd ?_|refine je ?_|refine jf ?_|refine jg ?_|refine jh ?_|refine ji ?_|refine jj ?_|refine jk ?_|refine jl ?_|refine jm ?_|refine jn ?_|refine jo ?_|refine jp ?_|refine jq ?_|refine jr ?_|refine js ?_|refine jt ?_|refine ju ?_|refine jv ?_|refine jw ?_|refine jx ?_|refine jy ?_|refine jz ?_|refine jA ?_|refine jB ?_|refine jC ?_|refine jD ?_|refine jE ?_|refine jF ?_|refine jG ?_|refine jH ?_|refine jI ?_|refine jJ ?_|refine jK ?_|refine jL ?_|refine jM (by assumption) ?_|refine jN (by assumption) rfl ?_|refine jO (by assumption) ?_|refine jP (by assumption) rfl ?_|refine jQ ?_|refine jR ?_|refine jS ?_|refine jT ?_|refine jU (by assumption) rfl ?_))
        exact hK _ _ ⟨-1, rfl, isN_no.2 (by omega), rfl⟩
      · (repeat (first|refine ja ?_|refine jb ?_|refine jc ?_|refine jd ?_|refine je ?_|refine jf ?_|refine jg ?_|refine jh ?_|refine ji ?_|refine jj ?_|refine jk ?_|refine jl ?_|refine jm ?_|refine jn ?_|refine jo ?_|refine jp ?_|refine jq ?_|refine jr ?_|refine js ?_|refine jt ?_|refine ju ?_|refine jv ?_|refine jw ?_|refine jx ?_|refine jy ?_|refine jz ?_|refine jA ?_|refine jB ?_|refine jC ?_|refine jD ?_|refine jE ?_|refine jF ?_|refine jG ?_|refine jH ?_|refine jI ?_|refine jJ ?_|refine jK ?_|refine jL ?_|refine jM (by assumption) ?_|refine jN (by assumption) rfl ?_|refine jO (by assumption) ?_|refine jP (by assumption) rfl ?_|refine jQ ?_|refine jR ?_|refine jS ?_|refine jT ?_|refine jU (by assumption) rfl ?_))
        refine M.call_i (hd14.dlen) ?_; rintro _ wx ⟨rfl, rfl⟩
        (repeat (first|refine ja ?_|refine jb ?_|refine jc ?_|refine jd ?_|refine je ?_|refine jf ?_|refine jg ?_|refine jh ?_|refine ji ?_|refine jj ?_|refine jk ?_|refine jl ?_|refine jm ?_|refine jn ?_|refine jo ?_|refine jp ?_|refine jq ?_|refine jr ?_|refine js ?_|refine jt ?_|refine ju ?_|refine jv ?_|refine jw ?_|refine jx ?_|refine jy ?_|refine jz ?_|refine jA ?_|refine jB ?_|refine jC ?_|refine jD ?_|refine jE ?_|refine jF ?_|refine jG ?_|refine jH ?_|refine jI ?_|refine jJ ?_|refine jK ?_|refine jL ?_|refine jM (by assumption) ?_|refine jN (by assumption) rfl ?_|refine jO (by assumption) ?_|refine jP (by assumption) rfl ?_|refine jQ ?_|refine jR ?_|refine jS ?_|refine jT ?_|refine jU (by assumption) rfl ?_))
        exact hK _ _ ⟨bad, rfl, isN_no.2 (by omega), rfl⟩
    · (repeat (first|refine ja ?_|refine jb ?_|refine jc ?_|refine jd ?_|refine je ?_|refine jf ?_|refine jg ?_|refine jh ?_|refine ji ?_|refine jj ?_|refine jk ?_|refine jl ?_|refine jm ?_|refine jn ?_|refine jo ?_|refine jp ?_|refine jq ?_|refine jr ?_|refine js ?_|refine jt ?_|refine ju ?_|refine jv ?_|refine jw ?_|refine jx ?_|refine jy ?_|refine jz ?_|refine jA ?_|refine jB ?_|refine jC ?_|refine jD ?_|refine jE ?_|refine jF ?_|refine jG ?_|refine jH ?_|refine jI ?_|refine jJ ?_|refine jK ?_|refine jL ?_|refine jM (by assumption) ?_|refine jN (by assumption) rfl ?_|refine jO (by assumption) ?_|refine jP (by assumption) rfl ?_|refine jQ ?_|refine jR ?_|refine jS ?_|refine jT ?_|refine jU (by assumption) rfl ?_))
      exact hK _ _ ⟨bad, rfl, isN_no.2 (by omega), rfl⟩
  rintro vals wx ⟨bad', rfl, hbad, rfl⟩ _
  simp only [List.getD_cons_zero, List.getD_cons_succ]
  refine M.loadAll_i t14 hl19 ?_
  refine M.storeAll_i u14 hl19 (vals_len (s := { s0 with en := 3 }) h8) (vals_one o1 o2 o3 o4) (fun w15 u15 k15 s15 => ?_)
  have hk8 : at_ % 8 < 8 := Nat.mod_lt _ (by decide)
  refine rem8_i ?_
  (repeat (first|refine ja ?_|refine jb ?_|refine jc ?_|refine jd ?_|refine je ?_|refine jf ?_|refine jg ?_|refine jh ?_|refine ji ?_|refine jj ?_|refine jk ?_|refine jl ?_|refine jm ?_|refine jn ?_|refine jo ?_|refine jp ?_|refine jq ?_|refine jr ?_|refine js ?_|refine jt ?_|refine ju ?_|refine jv ?_|refine jw ?_|refine jx ?_|refine jy ?_|refine jz ?_|refine jA ?_|refine jB ?_|refine jC ?_|refine jD ?_|refine jE ?_|refine jF ?_|refine jG ?_|refine jH ?_|refine jI ?_|refine jJ ?_|refine jK ?_|refine jL ?_|refine jM (by assumption) ?_|refine jN (by assumption) rfl ?_|refine jO (by assumption) ?_|refine jP (by assumption) rfl ?_|refine jQ ?_|refine jR ?_|refine jS ?_|refine jT ?_|refine jU (by assumption) rfl ?_))
  refine M.arr8_i (by omega) (by omega) ?_
  rw [Int.toNat_natCast, Nat.zero_add]
  refine M.store_i u15 (by rw [hl19]; omega) rfl (fun w16 u16 k16 s16 => ?_)
  rw [vals_set h8 hk8] at u16
  have k1416 : Keep w14 w16 (· = w10.heap.size) := k15.trans k16 (fun x hx e => e)
  have hb14 := b14.lt
  have b16 := b14.keep k1416 (by omega)
  have t16 := t14.keep k1416 hTU
  have hd16 := hd14.keep k1416 (fun x hf e => nU14 (by have e : x = w10.heap.size := e; rw [← e]; exact hf))
  have L16 := L14.keep k1416 (fun x _ h e => h.2.2 e)
  have k016 : Keep w w16 No := k014.trans k1416 (fun x hx e => by have e : x = w10.heap.size := e; omega)
  have h8s : (s0.regs.set (at_ % 8) bad').length = 8 := by simpa using h8
  (repeat (first|refine ja ?_|refine jb ?_|refine jc ?_|refine jd ?_|refine je ?_|refine jf ?_|refine jg ?_|refine jh ?_|refine ji ?_|refine jj ?_|refine jk ?_|refine jl ?_|refine jm ?_|refine jn ?_|refine jo ?_|refine jp ?_|refine jq ?_|refine jr ?_|refine js ?_|refine jt ?_|refine ju ?_|refine jv ?_|refine jw ?_|refine jx ?_|refine jy ?_|refine jz ?_|refine jA ?_|refine jB ?_|refine jC ?_|refine jD ?_|refine jE ?_|refine jF ?_|refine jG ?_|refine jH ?_|refine jI ?_|refine jJ ?_|refine jK ?_|refine jL ?_|refine jM (by assumption) ?_|refine jN (by assumption) rfl ?_|refine jO (by assumption) ?_|refine jP (by assumption) rfl ?_|refine jQ ?_|refine jR ?_|refine jS ?_|refine jT ?_|refine jU (by assumption) rfl ?_))
  refine M.loadAll_i u16 (vals_len (s := { s0 with regs := s0.regs.set (at_ % 8) bad' }) h8s) ?_
  (repeat (first|refine ja ?_|refine jb ?_|refine jc ?_|refine jd ?_|refine je ?_|refine jf ?_|refine jg ?_|refine jh ?_|refine ji ?_|refine jj ?_|refine jk ?_|refine jl ?_|refine jm ?_|refine jn ?_|refine jo ?_|refine jp ?_|refine jq ?_|refine jr ?_|refine js ?_|refine jt ?_|refine ju ?_|refine jv ?_|refine jw ?_|refine jx ?_|refine jy ?_|refine jz ?_|refine jA ?_|refine jB ?_|refine jC ?_|refine jD ?_|refine jE ?_|refine jF ?_|refine jG ?_|refine jH ?_|refine jI ?_|refine jJ ?_|refine jK ?_|refine jL ?_|refine jM (by assumption) ?_|refine jN (by assumption) rfl ?_|refine jO (by assumption) ?_|refine jP (by assumption) rfl ?_|refine jQ ?_|refine jR ?_|refine jS ?_|refine jT ?_|refine jU (by assumption) rfl ?_))
  have hs16 : SyO w16 (fun x => ¬ F14 x) (.agg ⟨({ s0 with regs := s0.regs.set (at_ % 8) bad' } : Sy).vals c a b d⟩) { s0 with regs := s0.regs.set (at_ % 8) bad' } := (SyO.of3 (t := { s0 with regs := s0.regs.set (at_ % 8) bad' }) h8s L16 rfl rfl rfl).mono (fun x _ h => h.1)
  have st2 : stepN 1000 cz.1 code { s0 with regs := s0.regs.set (at_ % 8) bad' } inputs mw = (cz.1, 11, []) := by
    unfold stepN
    rw [if_neg (fun h => h hen0), if_pos (fine_not h8 hk8 (by rw [wdN_none hbad]; decide))]
  obtain ⟨hB2, hS2⟩ := hBnd { s0 with regs := s0.regs.set (at_ % 8) bad' } rfl rfl rfl rfl rfl rfl
  refine M.call_i (Step37_ok hd16 (hcodeK k016) (by omega) hs16 hB2 hS2 (by omega) st2) ?_; rintro _ w17 ⟨F17, v17, rfl, hd17, hF17, k17, hO17⟩
  refine M.extract_i (v := v17) rfl ?_
  refine M.extract_i (v := vi 11) rfl ?_
  obtain ⟨A17, cp17, cs17, e17, _⟩ := hO17
  have e17 : v17 = .slice A17 0 cp17 := e17
  have q16 := k1416.size
  have q17 := k17.size
  have nU17 : ¬ F17 w10.heap.size := fun h => nU14 (hF17 _ (by have := u16.lt; omega) h)
  have hlow17 : ∀ x, x < w2.heap.size → ¬ F17 x := fun x hx h => hlow14 x hx (hF17 x (by have := k3.size; have := k4.size; have := k5.size; have := k57.size; have := k8.size; omega) h)
  have k017 : Keep w w17 No := k016.trans k17 (fun x hx h => hlow14 x (by have := k02.size; omega) h)
  have b17 := b16.keep k17 (hlow14 _ hb2)
  have u17 := u16.keep k17 nU14
  have L17 := L16.stepF k17 hF17
  have hd17 : DagO w17 F17 p cz.1 1000 := hd17
  -- the narrow term
  refine rem8_i ?_
  (repeat (first|refine ja ?_|refine jb ?_|refine jc ?_|refine jd ?_|refine je ?_|refine jf ?_|refine jg ?_|refine jh ?_|refine ji ?_|refine jj ?_|refine jk ?_|refine jl ?_|refine jm ?_|refine jn ?_|refine jo ?_|refine jp ?_|refine jq ?_|refine jr ?_|refine js ?_|refine jt ?_|refine ju ?_|refine jv ?_|refine jw ?_|refine jx ?_|refine jy ?_|refine jz ?_|refine jA ?_|refine jB ?_|refine jC ?_|refine jD ?_|refine jE ?_|refine jF ?_|refine jG ?_|refine jH ?_|refine jI ?_|refine jJ ?_|refine jK ?_|refine jL ?_|refine jM (by assumption) ?_|refine jN (by assumption) rfl ?_|refine jO (by assumption) ?_|refine jP (by assumption) rfl ?_|refine jQ ?_|refine jR ?_|refine jS ?_|refine jT ?_|refine jU (by assumption) rfl ?_))
  refine M.arr8_i (by omega) (by omega) ?_
  rw [Int.toNat_natCast, Nat.zero_add]
  refine M.store_i u17 (by rw [vals_len (s := { s0 with regs := s0.regs.set (at_ % 8) bad' }) h8s]; omega) rfl (fun w18 u18 k18 s18 => ?_)
  rw [vals_set (s := { s0 with regs := s0.regs.set (at_ % 8) bad' }) h8s hk8] at u18
  have hb17 := b17.lt
  have b18 := b17.keep k18 (by omega)
  have hd18 := hd17.keep k18 (fun x hf e => nU17 (by have e : x = w10.heap.size := e; rw [← e]; exact hf))
  have L18 := L17.keep k18 (fun x _ h e => h.2.2 e)
  have k018 : Keep w w18 No := k017.trans k18 (fun x hx e => by have e : x = w10.heap.size := e; omega)
  have h8t : ((s0.regs.set (at_ % 8) bad').set (at_ % 8) 0).length = 8 := by simpa using h8
  (repeat (first|refine ja ?_|refine jb ?_|refine jc ?_|refine jd ?_|refine je ?_|refine jf ?_|refine jg ?_|refine jh ?_|refine ji ?_|refine jj ?_|refine jk ?_|refine jl ?_|refine jm ?_|refine jn ?_|refine jo ?_|refine jp ?_|refine jq ?_|refine jr ?_|refine js ?_|refine jt ?_|refine ju ?_|refine jv ?_|refine jw ?_|refine jx ?_|refine jy ?_|refine jz ?_|refine jA ?_|refine jB ?_|refine jC ?_|refine jD ?_|refine jE ?_|refine jF ?_|refine jG ?_|refine jH ?_|refine jI ?_|refine jJ ?_|refine jK ?_|refine jL ?_|refine jM (by assumption) ?_|refine jN (by assumption) rfl ?_|refine jO (by assumption) ?_|refine jP (by assumption) rfl ?_|refine jQ ?_|refine jR ?_|refine jS ?_|refine jT ?_|refine jU (by assumption) rfl ?_))
  refine M.loadAll_i u18 (vals_len (s := { s0 with regs := (s0.regs.set (at_ % 8) bad').set (at_ % 8) 0 }) h8t) ?_
  (repeat (first|refine ja ?_|refine jb ?_|refine jc ?_|refine jd ?_|refine je ?_|refine jf ?_|refine jg ?_|refine jh ?_|refine ji ?_|refine jj ?_|refine jk ?_|refine jl ?_|refine jm ?_|refine jn ?_|refine jo ?_|refine jp ?_|refine jq ?_|refine jr ?_|refine js ?_|refine jt ?_|refine ju ?_|refine jv ?_|refine jw ?_|refine jx ?_|refine jy ?_|refine jz ?_|refine jA ?_|refine jB ?_|refine jC ?_|refine jD ?_|refine jE ?_|refine jF ?_|refine jG ?_|refine jH ?_|refine jI ?_|refine jJ ?_|refine jK ?_|refine jL ?_|refine jM (by assumption) ?_|refine jN (by assumption) rfl ?_|refine jO (by assumption) ?_|refine jP (by assumption) rfl ?_|refine jQ ?_|refine jR ?_|refine jS ?_|refine jT ?_|refine jU (by assumption) rfl ?_))
  have hs18 : SyO w18 (fun x => ¬ F17 x) (.agg ⟨({ s0 with regs := (s0.regs.set (at_ % 8) bad').set (at_ % 8) 0 } : Sy).vals c a b d⟩) { s0 with regs := (s0.regs.set (at_ % 8) bad').set (at_ % 8) 0 } := (SyO.of3 (t := { s0 with regs := (s0.regs.set (at_ % 8) bad').set (at_ % 8) 0 }) h8t L18 rfl rfl rfl).mono (fun x _ h => h.1)
  have st3 : stepN 1000 cz.1 code { s0 with regs := (s0.regs.set (at_ % 8) bad').set (at_ % 8) 0 } inputs mw = (cz.1, 11, []) := by
    unfold stepN
    rw [if_neg (fun h => h hen0), if_pos (fine_not (s := { s0 with regs := s0.regs.set (at_ % 8) bad' }) h8s hk8 (by rw [hw0]; decide))]
  obtain ⟨hB3, hS3⟩ := hBnd { s0 with regs := (s0.regs.set (at_ % 8) bad').set (at_ % 8) 0 } rfl rfl rfl rfl rfl rfl
  refine M.call_i (Step37_ok hd18 (hcodeK k018) (by omega) hs18 hB3 hS3 (by omega) st3) ?_; rintro _ w19 ⟨F19, v19, rfl, hd19, hF19, k19, hO19⟩
  refine M.extract_i (v := v19) rfl ?_
  refine M.extract_i (v := vi 11) rfl ?_
  obtain ⟨A19, cp19, cs19, e19, _⟩ := hO19
  have e19 : v19 = .slice A19 0 cp19 := e19
  have k019 : Keep w w19 No := k018.trans k19 (fun x hx h => hlow17 x (by have := k02.size; omega) h)
  rw [e14]
  (repeat (first|refine ja ?_|refine jb ?_|refine jc ?_|refine jd ?_|refine je ?_|refine jf ?_|refine jg ?_|refine jh ?_|refine ji ?_|refine jj ?_|refine jk ?_|refine jl ?_|refine jm ?_|refine jn ?_|refine jo ?_|refine jp ?_|refine jq ?_|refine jr ?_|refine js ?_|refine jt ?_|refine ju ?_|refine jv ?_|refine jw ?_|refine jx ?_|refine jy ?_|refine jz ?_|refine jA ?_|refine jB ?_|refine jC ?_|refine jD ?_|refine jE ?_|refine jF ?_|refine jG ?_|refine jH ?_|refine jI ?_|refine jJ ?_|refine jK ?_|refine jL ?_|refine jM (by assumption) ?_|refine jN (by assumption) rfl ?_|refine jO (by assumption) ?_|refine jP (by assumption) rfl ?_|refine jQ ?_|refine jR ?_|refine jS ?_|refine jT ?_|refine jU (by assumption) rfl ?_))
  rw [e17]
  (repeat (first|refine ja ?_|refine jb ?_|refine jc ?_|refine jd ?_|refine je ?_|refine jf ?_|refine jg ?_|refine jh ?_|refine ji ?_|refine jj ?_|refine jk ?_|refine jl ?_|refine jm ?_|refine jn ?_|refine jo ?_|refine jp ?_|refine jq ?_|refine jr ?_|refine js ?_|refine jt ?_|refine ju ?_|refine jv ?_|refine jw ?_|refine jx ?_|refine jy ?_|refine jz ?_|refine jA ?_|refine jB ?_|refine jC ?_|refine jD ?_|refine jE ?_|refine jF ?_|refine jG ?_|refine jH ?_|refine jI ?_|refine jJ ?_|refine jK ?_|refine jL ?_|refine jM (by assumption) ?_|refine jN (by assumption) rfl ?_|refine jO (by assumption) ?_|refine jP (by assumption) rfl ?_|refine jQ ?_|refine jR ?_|refine jS ?_|refine jT ?_|refine jU (by assumption) rfl ?_))
  rw [e19]
  (repeat (first|refine ja ?_|refine jb ?_|refine jc ?_|refine jd ?_|refine je ?_|refine jf ?_|refine jg ?_|refine jh ?_|refine ji ?_|refine jj ?_|refine jk ?_|refine jl ?_|refine jm ?_|refine jn ?_|refine jo ?_|refine jp ?_|refine jq ?_|refine jr ?_|refine js ?_|refine jt ?_|refine ju ?_|refine jv ?_|refine jw ?_|refine jx ?_|refine jy ?_|refine jz ?_|refine jA ?_|refine jB ?_|refine jC ?_|refine jD ?_|refine jE ?_|refine jF ?_|refine jG ?_|refine jH ?_|refine jI ?_|refine jJ ?_|refine jK ?_|refine jL ?_|refine jM (by assumption) ?_|refine jN (by assumption) rfl ?_|refine jO (by assumption) ?_|refine jP (by assumption) rfl ?_|refine jQ ?_|refine jR ?_|refine jS ?_|refine jT ?_|refine jU (by assumption) rfl ?_))
  refine M.call_i (awake37_ret w19) ?_; rintro _ w20 ⟨rfl, k20⟩
  (repeat (first|refine ja ?_|refine jb ?_|refine jc ?_|refine jd ?_|refine je ?_|refine jf ?_|refine jg ?_|refine jh ?_|refine ji ?_|refine jj ?_|refine jk ?_|refine jl ?_|refine jm ?_|refine jn ?_|refine jo ?_|refine jp ?_|refine jq ?_|refine jr ?_|refine js ?_|refine jt ?_|refine ju ?_|refine jv ?_|refine jw ?_|refine jx ?_|refine jy ?_|refine jz ?_|refine jA ?_|refine jB ?_|refine jC ?_|refine jD ?_|refine jE ?_|refine jF ?_|refine jG ?_|refine jH ?_|refine jI ?_|refine jJ ?_|refine jK ?_|refine jL ?_|refine jM (by assumption) ?_|refine jN (by assumption) rfl ?_|refine jO (by assumption) ?_|refine jP (by assumption) rfl ?_|refine jQ ?_|refine jR ?_|refine jS ?_|refine jT ?_|refine jU (by assumption) rfl ?_))
  exact ⟨rfl, k019.trans k20 (fun _ _ h => h)⟩
end Go.Proofs.Ytanjlgafjgoaaaa
