import Derived.Test.YthcfmfkigioaeaaRed13
namespace Go.Proofs.Ythcfmfkigioaeaa
open Go.Mw
set_option linter.unusedVariables false
set_option linter.unusedSimpArgs false
set_option maxRecDepth 100000
attribute [local irreducible] M.val M.unit M.next M.pick M.new M.nilCheck M.load1 M.loadA M.store M.fieldAddr M.indexSl M.indexArr M.slice M.makeSlice M.buildSlice M.len M.lenS M.cap M.append M.extract M.conv M.not M.neg M.bin M.shift M.eqB M.eqNil M.call M.callv M.gd M.share M.cond M.loop M.draw pureW readW Ret
/-! breakwater/breakwaterlaw13.ReduceKeeps: function 3 -/
def sh3 (x0 : Value) (R : Kt) (w : World) : Prop :=
  M.len x0 (fun t5 w =>
  M.bin .gtr t5 (Value.int IntKind.i64 100) (fun t6 w =>
  M.cond t6
  (M.call Try.prog 5 #[] (fun t7 w =>
  R t7 w) w)
  (M.loop [(Value.int IntKind.i64 1)] (fun s1 K1 w => ∀ _ : List Value,
  M.len x0 (fun t10 w =>
  M.bin .lss (s1.getD 0 undef) t10 (fun t11 w =>
  M.cond t11
  (M.draw (fun w =>
  M.bin .sub (s1.getD 0 undef) (Value.int IntKind.i64 1) (fun t16 w =>
  M.indexSl 3 x0 t16 (fun t17 w =>
  M.loadA 3 t17 (fun t18 w =>
  M.indexSl 3 x0 (s1.getD 0 undef) (fun t21 w =>
  M.loadA 3 t21 (fun t22 w =>
  M.bin .sub (s1.getD 0 undef) (Value.int IntKind.i64 1) (fun t26 w =>
  M.indexSl 3 x0 t26 (fun t27 w =>
  M.loadA 3 t27 (fun t28 w =>
  M.indexSl 3 x0 (s1.getD 0 undef) (fun t31 w =>
  M.loadA 3 t31 (fun t32 w =>
  M.call Try.prog 6 #[t18, t22] (fun t23 w =>
  ((M.loadA 3 t31 (fun v' _ => v' = t32) w) ∧ ((M.loadA 3 t27 (fun v' _ => v' = t28) w) ∧ M.call Try.prog 7 #[t28, t32] (fun t33 w =>
  M.eqB true t23 t33 (fun t34 w =>
  M.cond t34
  (R (Value.bool false) w)
  (M.bin .add (s1.getD 0 undef) (Value.int IntKind.i64 1) (fun t13 w =>
  K1 [t13] w) w)) w) w))) w) w) w) w) w) w) w) w) w) w) w) w)
  (M.call Try.prog 9 #[x0] (fun t36 w =>
  M.call Try.prog 10 #[x0] (fun t38 w =>
  M.call Try.prog 8 #[t36, t38] (fun t39 w =>
  M.gd t39 true (fun k w => M.call Try.prog 5 #[] k w) (fun t41 w =>
  M.pick t39 t41 (Value.bool false) (fun t42 w =>
  R t42 w) w) w) w) w) w)) w) w) w)) w) w
theorem ok3 (x0 : Value) (R : Kt) (w : World) (h : sh3 x0 R w) : Ret Try.prog 3 #[x0] w R :=
  ret_mk <| calls_of_comp mixed (c := Try.f3.body.getD .skip) (args := [x0]) (rs := [(ResultVar.tmp 2)]) (Ann.seq Ann.text (Ann.seq (Ann.seq Ann.text (Ann.cond (Ann.seq Ann.text Ann.leaf) Ann.leaf)) (Ann.seq (Ann.seq Ann.text (Ann.block (Ann.loop [3] [2, 8, 9, 10, 11, 12, 13, 14, 15, 16, 17, 18, 19, 20, 21, 22, 23, 24, 25, 26, 27, 28, 29, 30, 31, 32, 33, 34] (Ann.seq (Ann.seq Ann.text (Ann.cond Ann.leaf Ann.leaf)) (Ann.seq (Ann.block (Ann.seq (Ann.draw (Sch.take 0 (Sch.take 1 (Sch.take 2 (Sch.take 3 (Sch.take 4 (Sch.take 5 (Sch.take 6 (Sch.take 7 (Sch.take 8 (Sch.take 10 (Sch.take 11 (Sch.take 12 (Sch.take 13 (Sch.take 14 (Sch.take 15 (Sch.take 16 (Sch.take 17 (Sch.take 18 (Sch.one 9 (Sch.one 19 (Sch.take 20 Sch.done)))))))))))))))))))))) (Ann.cond (Ann.seq Ann.text Ann.leaf) Ann.leaf))) Ann.text))))) (Ann.seq Ann.text Ann.leaf))))
    Try.func3 (by kernel_rfl) (by kernel_rfl)
    (Eq.mp (by kernel_rfl) h)
/-! breakwater/breakwaterlaw13.ReduceHalf: function 4 -/
def sh4 (x0 : Value) (R : Kt) (w : World) : Prop :=
  M.len x0 (fun t9 w =>
  M.bin .gtr t9 (Value.int IntKind.i64 100) (fun t10 w =>
  M.cond t10
  (M.call Try.prog 5 #[] (fun t11 w =>
  R t11 w) w)
  (M.call Try.prog 9 #[x0] (fun t13 w =>
  M.len t13 (fun t15 w =>
  M.len x0 (fun t17 w =>
  M.bin .neq t15 t17 (fun t18 w =>
  M.cond t18
  (R (Value.bool false) w)
  (M.loop [(Value.int IntKind.i64 0), (Value.int IntKind.i64 0), (Value.int IntKind.i64 0)] (fun s1 K1 w => ∀ _ : List Value,
  M.len x0 (fun t21 w =>
  M.bin .lss (s1.getD 2 undef) t21 (fun t22 w =>
  M.cond t22
  (M.share (fun K2 w =>
  M.indexSl 3 x0 (s1.getD 2 undef) (fun t27 w =>
  M.fieldAddr 1 t27 (fun t28 w =>
  M.load1 t28 (fun t29 w =>
  M.bin .leq t29 (Value.int IntKind.i64 2) (fun t30 w =>
  M.gd t30 false (fun k w => k x0 w) (fun t32 w =>
  M.gd t30 false (fun k w => k (s1.getD 2 undef) w) (fun t33 w =>
  M.gd t30 false (fun k w => M.indexSl 3 t32 t33 k w) (fun t34 w =>
  M.gd t30 false (fun k w => M.fieldAddr 0 t34 k w) (fun t35 w =>
  M.gd t30 false (fun k w => M.load1 t35 k w) (fun t36 w =>
  M.gd t30 false (fun k w => M.bin .leq t36 (Value.int IntKind.i64 2) k w) (fun t37 w =>
  M.pick t30 (Value.bool true) t37 (fun t38 w =>
  M.cond t38
  (M.indexSl 1 t13 (s1.getD 2 undef) (fun t41 w =>
  M.load1 t41 (fun t42 w =>
  M.not t42 (fun t43 w =>
  M.cond t43
  (R (Value.bool false) w)
  (K2 [(s1.getD 0 undef), (s1.getD 1 undef)] w)) w) w) w)
  (M.bin .add (s1.getD 1 undef) (Value.int IntKind.i64 1) (fun t45 w =>
  M.share (fun K3 w =>
  M.indexSl 1 t13 (s1.getD 2 undef) (fun t48 w =>
  M.load1 t48 (fun t49 w =>
  M.cond t49
  (M.bin .add (s1.getD 0 undef) (Value.int IntKind.i64 1) (fun t51 w =>
  K3 [t51] w) w)
  (K3 [(s1.getD 0 undef)] w)) w) w) (fun s3 w => ∀ _ : List Value,
  M.loop [(Value.int IntKind.i64 0)] (fun s4 K4 w => ∀ _ : List Value,
  M.len x0 (fun t54 w =>
  M.bin .lss (s4.getD 0 undef) t54 (fun t55 w =>
  M.cond t55
  (M.draw (fun w =>
  M.indexSl 1 t13 (s4.getD 0 undef) (fun t60 w =>
  M.load1 t60 (fun t61 w =>
  M.gd t61 true (fun k w => k t13 w) (fun t63 w =>
  M.gd t61 true (fun k w => k (s1.getD 2 undef) w) (fun t64 w =>
  M.gd t61 true (fun k w => M.indexSl 1 t63 t64 k w) (fun t65 w =>
  M.gd t61 true (fun k w => M.load1 t65 k w) (fun t66 w =>
  M.gd t61 true (fun k w => M.not t66 k w) (fun t67 w =>
  M.pick t61 t67 (Value.bool false) (fun t68 w =>
  M.gd t68 true (fun k w => k x0 w) (fun t70 w =>
  M.gd t68 true (fun k w => k (s4.getD 0 undef) w) (fun t71 w =>
  M.gd t68 true (fun k w => M.indexSl 3 t70 t71 k w) (fun t72 w =>
  M.gd t68 true (fun k w => M.fieldAddr 1 t72 k w) (fun t73 w =>
  M.gd t68 true (fun k w => M.load1 t73 k w) (fun t74 w =>
  M.gd t68 true (fun k w => M.bin .gtr t74 (Value.int IntKind.i64 2) k w) (fun t75 w =>
  M.pick t68 t75 (Value.bool false) (fun t76 w =>
  M.gd t76 true (fun k w => k x0 w) (fun t78 w =>
  M.gd t76 true (fun k w => k (s4.getD 0 undef) w) (fun t79 w =>
  M.gd t76 true (fun k w => M.indexSl 3 t78 t79 k w) (fun t80 w =>
  M.gd t76 true (fun k w => M.fieldAddr 0 t80 k w) (fun t81 w =>
  M.gd t76 true (fun k w => M.load1 t81 k w) (fun t82 w =>
  M.gd t76 true (fun k w => M.bin .gtr t82 (Value.int IntKind.i64 2) k w) (fun t83 w =>
  M.pick t76 t83 (Value.bool false) (fun t84 w =>
  M.gd t84 true (fun k w => k x0 w) (fun t86 w =>
  M.gd t84 true (fun k w => k (s1.getD 2 undef) w) (fun t87 w =>
  M.gd t84 true (fun k w => M.indexSl 3 t86 t87 k w) (fun t88 w =>
  M.gd t84 true (fun k w => M.loadA 3 t88 k w) (fun t89 w =>
  M.gd t84 true (fun k w => k x0 w) (fun t90 w =>
  M.gd t84 true (fun k w => k (s4.getD 0 undef) w) (fun t91 w =>
  M.gd t84 true (fun k w => M.indexSl 3 t90 t91 k w) (fun t92 w =>
  M.gd t84 true (fun k w => M.loadA 3 t92 k w) (fun t93 w =>
  M.gd t84 true (fun k w => M.call Try.prog 6 #[t89, t93] k w) (fun t94 w =>
  ((M.gd t76 true (fun k w => M.load1 t81 k w) (fun v' _ => v' = t82) w) ∧ ((M.gd t68 true (fun k w => M.load1 t73 k w) (fun v' _ => v' = t74) w) ∧ ((M.gd t61 true (fun k w => M.load1 t65 k w) (fun v' _ => v' = t66) w) ∧ ((M.load1 t60 (fun v' _ => v' = t61) w) ∧ M.pick t84 t94 (Value.bool false) (fun t95 w =>
  M.cond t95
  (R (Value.bool false) w)
  (M.bin .add (s4.getD 0 undef) (Value.int IntKind.i64 1) (fun t57 w =>
  K4 [t57] w) w)) w))))) w) w) w) w) w) w) w) w) w) w) w) w) w) w) w) w) w) w) w) w) w) w) w) w) w) w) w) w) w) w) w) w)
  (K2 [(s3.getD 0 undef), t45] w)) w) w) w) w) w)) w) w) w) w) w) w) w) w) w) w) w) (fun s2 w => ∀ _ : List Value,
  M.bin .add (s1.getD 2 undef) (Value.int IntKind.i64 1) (fun t24 w =>
  K1 [(s2.getD 0 undef), (s2.getD 1 undef), t24] w) w) w)
  (M.bin .add (s1.getD 1 undef) (Value.int IntKind.i64 1) (fun t98 w =>
  M.bin .quo t98 (Value.int IntKind.i64 2) (fun t99 w =>
  M.bin .eql (s1.getD 0 undef) t99 (fun t100 w =>
  M.gd t100 true (fun k w => M.call Try.prog 5 #[] k w) (fun t102 w =>
  M.pick t100 t102 (Value.bool false) (fun t103 w =>
  R t103 w) w) w) w) w) w)) w) w) w)) w) w) w) w)) w) w
theorem ok4 (x0 : Value) (R : Kt) (w : World) (h : sh4 x0 R w) : Ret Try.prog 4 #[x0] w R :=
  ret_mk <| calls_of_comp mixed (c := Try.f4.body.getD .skip) (args := [x0]) (rs := [(ResultVar.tmp 2)]) (Ann.seq Ann.text (Ann.seq (Ann.seq Ann.text (Ann.cond (Ann.seq Ann.text Ann.leaf) Ann.leaf)) (Ann.seq Ann.text (Ann.seq (Ann.seq Ann.text (Ann.cond (Ann.seq Ann.text Ann.leaf) Ann.leaf)) (Ann.seq Ann.text (Ann.seq (Ann.seq Ann.text (Ann.block (Ann.loop [4, 5, 6] [2, 7, 19, 20, 21, 22, 23, 24, 25, 26, 27, 28, 29, 30, 31, 32, 33, 34, 35, 36, 37, 38, 39, 40, 41, 42, 43, 44, 45, 46, 47, 48, 49, 50, 51, 52, 53, 54, 55, 56, 57, 58, 59, 60, 61, 62, 63, 64, 65, 66, 67, 68, 69, 70, 71, 72, 73, 74, 75, 76, 77, 78, 79, 80, 81, 82, 83, 84, 85, 86, 87, 88, 89, 90, 91, 92, 93, 94, 95] (Ann.seq (Ann.seq Ann.text (Ann.cond Ann.leaf Ann.leaf)) (Ann.seq (Ann.jblock [4, 5] [2, 7, 25, 26, 27, 28, 29, 30, 31, 32, 33, 34, 35, 36, 37, 38, 39, 40, 41, 42, 43, 44, 45, 46, 47, 48, 49, 50, 51, 52, 53, 54, 55, 56, 57, 58, 59, 60, 61, 62, 63, 64, 65, 66, 67, 68, 69, 70, 71, 72, 73, 74, 75, 76, 77, 78, 79, 80, 81, 82, 83, 84, 85, 86, 87, 88, 89, 90, 91, 92, 93, 94, 95] (Ann.seq (Ann.seq Ann.text (Ann.cond (Ann.seq (Ann.seq Ann.text (Ann.cond (Ann.seq Ann.text Ann.leaf) Ann.leaf)) Ann.leaf) Ann.leaf)) (Ann.seq Ann.text (Ann.join [4] [46, 47, 48, 49, 50, 51] (Ann.seq Ann.text (Ann.cond Ann.text Ann.leaf)) (Ann.seq Ann.text (Ann.block (Ann.loop [7] [2, 52, 53, 54, 55, 56, 57, 58, 59, 60, 61, 62, 63, 64, 65, 66, 67, 68, 69, 70, 71, 72, 73, 74, 75, 76, 77, 78, 79, 80, 81, 82, 83, 84, 85, 86, 87, 88, 89, 90, 91, 92, 93, 94, 95] (Ann.seq (Ann.seq Ann.text (Ann.cond Ann.leaf Ann.leaf)) (Ann.seq (Ann.block (Ann.seq (Ann.draw (Sch.take 0 (Sch.take 1 (Sch.take 2 (Sch.take 3 (Sch.take 4 (Sch.take 5 (Sch.take 6 (Sch.take 7 (Sch.take 8 (Sch.take 9 (Sch.take 10 (Sch.take 11 (Sch.take 12 (Sch.take 13 (Sch.take 14 (Sch.take 15 (Sch.take 16 (Sch.take 17 (Sch.take 18 (Sch.take 19 (Sch.take 20 (Sch.take 21 (Sch.take 22 (Sch.take 23 (Sch.take 24 (Sch.take 25 (Sch.take 26 (Sch.take 27 (Sch.take 28 (Sch.take 29 (Sch.take 30 (Sch.take 31 (Sch.take 32 (Sch.take 33 (Sch.take 34 (Sch.take 35 (Sch.one 36 (Sch.take 37 Sch.done))))))))))))))))))))))))))))))))))))))) (Ann.cond (Ann.seq Ann.text Ann.leaf) Ann.leaf))) Ann.text))))))))) Ann.text))))) (Ann.seq Ann.text Ann.leaf)))))))
    Try.func4 (by kernel_rfl) (by kernel_rfl)
    (Eq.mp (by kernel_rfl) h)
/-! breakwater/breakwaterlaw13.awake: function 5 -/
def sh5 (R : Kt) (w : World) : Prop :=
  pureW Try.prog (Instr.build 26 #[(0, (Value.int IntKind.i64 9)), (1, (Value.int IntKind.i64 5))]) (fun t2 w =>
  pureW Try.prog (Instr.build 26 #[(0, (Value.int IntKind.i64 9)), (1, (Value.int IntKind.i64 3))]) (fun t3 w =>
  pureW Try.prog (Instr.build 26 #[(0, (Value.int IntKind.i64 9)), (1, (Value.int IntKind.i64 4))]) (fun t4 w =>
  M.buildSlice 26 3 #[.int .i64 0, .int .i64 0, .int .i64 0] 3 [(0, t2), (1, t3), (2, t4)] (fun t5 w =>
  M.share (fun K1 w =>
  M.draw (fun w =>
  ((M.call Try.prog 9 #[t5] (fun t7 w =>
  M.buildSlice 4 1 #[.bool false] 3 [(0, (Value.bool false)), (1, (Value.bool true)), (2, (Value.bool true))] (fun t8 w =>
  M.call Try.prog 8 #[t7, t8] (fun t9 w =>
  M.gd t9 true (fun k w => k t5 w) (fun t11 w =>
  M.gd t9 true (fun k w => M.indexSl 3 t11 (Value.int IntKind.i64 1) k w) (fun t12 w =>
  M.gd t9 true (fun k w => M.loadA 3 t12 k w) (fun t13 w =>
  M.gd t9 true (fun k w => k t5 w) (fun t14 w =>
  M.gd t9 true (fun k w => M.indexSl 3 t14 (Value.int IntKind.i64 0) k w) (fun t15 w =>
  M.gd t9 true (fun k w => M.loadA 3 t15 k w) (fun t16 w =>
  M.gd t9 true (fun k w => M.call Try.prog 6 #[t13, t16] k w) (fun t17 w =>
  M.pick t9 t17 (Value.bool false) (fun t18 w =>
  M.gd t18 true (fun k w => k t5 w) (fun t20 w =>
  M.gd t18 true (fun k w => M.indexSl 3 t20 (Value.int IntKind.i64 0) k w) (fun t21 w =>
  M.gd t18 true (fun k w => M.loadA 3 t21 k w) (fun t22 w =>
  M.gd t18 true (fun k w => k t5 w) (fun t23 w =>
  M.gd t18 true (fun k w => M.indexSl 3 t23 (Value.int IntKind.i64 0) k w) (fun t24 w =>
  M.gd t18 true (fun k w => M.loadA 3 t24 k w) (fun t25 w =>
  M.gd t18 true (fun k w => M.call Try.prog 6 #[t22, t25] k w) (fun t26 w =>
  M.gd t18 true (fun k w => M.not t26 k w) (fun t27 w =>
  M.pick t18 t27 (Value.bool false) (fun t28 w =>
  M.gd t28 true (fun k w => pureW Try.prog (Instr.build 26 #[(2, (Value.int IntKind.i64 2))]) k w) (fun t30 w =>
  M.gd t28 true (fun k w => pureW Try.prog (Instr.build 26 #[(2, (Value.int IntKind.i64 1))]) k w) (fun t31 w =>
  M.gd t28 true (fun k w => M.call Try.prog 6 #[t30, t31] k w) (fun t32 w =>
  M.pick t28 t32 (Value.bool false) (fun t33 w =>
  M.gd t33 true (fun k w => M.call Try.prog 9 #[(Value.slice none 0 0)] k w) (fun t35 w =>
  M.gd t33 true (fun k w => M.len t35 k w) (fun t36 w =>
  M.gd t33 true (fun k w => M.bin .eql t36 (Value.int IntKind.i64 0) k w) (fun t37 w =>
  M.pick t33 t37 (Value.bool false) (fun t38 w =>
  K1 [t38] w) w) w) w) w) w) w) w) w) w) w) w) w) w) w) w) w) w) w) w) w) w) w) w) w) w) w) w) w) ∧
   (M.buildSlice 4 1 #[.bool false] 3 [(0, (Value.bool false)), (1, (Value.bool true)), (2, (Value.bool true))] (fun t8_2 w =>
  M.call Try.prog 9 #[t5] (fun t7_2 w =>
  M.call Try.prog 8 #[t7_2, t8_2] (fun t9_2 w =>
  M.gd t9_2 true (fun k w => k t5 w) (fun t11_2 w =>
  M.gd t9_2 true (fun k w => M.indexSl 3 t11_2 (Value.int IntKind.i64 1) k w) (fun t12_2 w =>
  M.gd t9_2 true (fun k w => M.loadA 3 t12_2 k w) (fun t13_2 w =>
  M.gd t9_2 true (fun k w => k t5 w) (fun t14_2 w =>
  M.gd t9_2 true (fun k w => M.indexSl 3 t14_2 (Value.int IntKind.i64 0) k w) (fun t15_2 w =>
  M.gd t9_2 true (fun k w => M.loadA 3 t15_2 k w) (fun t16_2 w =>
  M.gd t9_2 true (fun k w => M.call Try.prog 6 #[t13_2, t16_2] k w) (fun t17_2 w =>
  M.pick t9_2 t17_2 (Value.bool false) (fun t18_2 w =>
  M.gd t18_2 true (fun k w => k t5 w) (fun t20_2 w =>
  M.gd t18_2 true (fun k w => M.indexSl 3 t20_2 (Value.int IntKind.i64 0) k w) (fun t21_2 w =>
  M.gd t18_2 true (fun k w => M.loadA 3 t21_2 k w) (fun t22_2 w =>
  M.gd t18_2 true (fun k w => k t5 w) (fun t23_2 w =>
  M.gd t18_2 true (fun k w => M.indexSl 3 t23_2 (Value.int IntKind.i64 0) k w) (fun t24_2 w =>
  M.gd t18_2 true (fun k w => M.loadA 3 t24_2 k w) (fun t25_2 w =>
  M.gd t18_2 true (fun k w => M.call Try.prog 6 #[t22_2, t25_2] k w) (fun t26_2 w =>
  M.gd t18_2 true (fun k w => M.not t26_2 k w) (fun t27_2 w =>
  M.pick t18_2 t27_2 (Value.bool false) (fun t28_2 w =>
  M.gd t28_2 true (fun k w => pureW Try.prog (Instr.build 26 #[(2, (Value.int IntKind.i64 2))]) k w) (fun t30_2 w =>
  M.gd t28_2 true (fun k w => pureW Try.prog (Instr.build 26 #[(2, (Value.int IntKind.i64 1))]) k w) (fun t31_2 w =>
  M.gd t28_2 true (fun k w => M.call Try.prog 6 #[t30_2, t31_2] k w) (fun t32_2 w =>
  M.pick t28_2 t32_2 (Value.bool false) (fun t33_2 w =>
  M.gd t33_2 true (fun k w => M.call Try.prog 9 #[(Value.slice none 0 0)] k w) (fun t35_2 w =>
  M.gd t33_2 true (fun k w => M.len t35_2 k w) (fun t36_2 w =>
  M.gd t33_2 true (fun k w => M.bin .eql t36_2 (Value.int IntKind.i64 0) k w) (fun t37_2 w =>
  M.pick t33_2 t37_2 (Value.bool false) (fun t38_2 w =>
  K1 [t38_2] w) w) w) w) w) w) w) w) w) w) w) w) w) w) w) w) w) w) w) w) w) w) w) w) w) w) w) w) w))) w) (fun s1 w => ∀ _ : List Value,
  R (s1.getD 0 undef) w) w) w) w) w) w
theorem ok5 (R : Kt) (w : World) (h : sh5 R w) : Ret Try.prog 5 #[] w R :=
  ret_mk <| calls_of_comp mixed (c := Try.f5.body.getD .skip) (args := []) (rs := [(ResultVar.tmp 0)]) (Ann.seq Ann.text (Ann.seq Ann.text (Ann.join [0] [6, 7, 8, 9, 10, 11, 12, 13, 14, 15, 16, 17, 18, 19, 20, 21, 22, 23, 24, 25, 26, 27, 28, 29, 30, 31, 32, 33, 34, 35, 36, 37, 38] (Ann.draw (Sch.take 0 (Sch.two 1 2 (Sch.one 2 (Sch.one 3 (Sch.take 4 (Sch.take 5 (Sch.take 6 (Sch.take 7 (Sch.take 8 (Sch.take 9 (Sch.take 10 (Sch.one 11 (Sch.take 12 (Sch.take 13 (Sch.take 14 (Sch.take 15 (Sch.take 16 (Sch.take 17 (Sch.take 18 (Sch.take 19 (Sch.one 20 (Sch.take 21 (Sch.take 22 (Sch.take 23 (Sch.take 24 (Sch.take 25 (Sch.one 26 (Sch.take 27 (Sch.take 28 (Sch.one 29 (Sch.take 30 (Sch.take 31 (Sch.take 32 (Sch.take 33 Sch.done)))))))))))))))))))))))))))))))) (Sch.one 1 (Sch.one 3 (Sch.take 4 (Sch.take 5 (Sch.take 6 (Sch.take 7 (Sch.take 8 (Sch.take 9 (Sch.take 10 (Sch.one 11 (Sch.take 12 (Sch.take 13 (Sch.take 14 (Sch.take 15 (Sch.take 16 (Sch.take 17 (Sch.take 18 (Sch.take 19 (Sch.one 20 (Sch.take 21 (Sch.take 22 (Sch.take 23 (Sch.take 24 (Sch.take 25 (Sch.one 26 (Sch.take 27 (Sch.take 28 (Sch.one 29 (Sch.take 30 (Sch.take 31 (Sch.take 32 (Sch.take 33 Sch.done))))))))))))))))))))))))))))))))))) Ann.leaf)))
    Try.func5 (by kernel_rfl) (by kernel_rfl)
    (Eq.mp (by kernel_rfl) h)

section
variable {w : World} {D : Nat → Prop} {v : Value} {l : List Lr}
theorem M.idxL_i {k : Kt} {A : Option Addr} {c : Nat} {i : Int} {x : Lr} (hr : Row w D A (l.flatMap Lr.cells)) (h0 : 0 ≤ i) (hx : l[i.toNat]? = some x)
    (h : ∀ b o, (∀ (j : Nat) v, x.cells[j]? = some v → w.cell? ⟨b, o + j, none⟩ = some v) → k (.pointer (some ⟨b, o, none⟩)) w) : M.indexSl 3 (.slice A l.length c) (vi i) k w :=
  M.idxF_i lr_len (by omega) hr rfl h0 hx h
theorem getL {i : Nat} (hi : i < l.length) : l[i]? = some (l.getD i zLr) := by
  rw [List.getD_eq_getElem?_getD, List.getElem?_eq_getElem hi]; rfl
theorem M.idxLn_i {k : Kt} {A : Option Addr} {c i : Nat} (hr : Row w D A (l.flatMap Lr.cells)) (hi : i < l.length)
    (h : ∀ b o, (∀ (j : Nat) v, (l.getD i zLr).cells[j]? = some v → w.cell? ⟨b, o + j, none⟩ = some v) → k (.pointer (some ⟨b, o, none⟩)) w) : M.indexSl 3 (.slice A l.length c) (vi i) k w :=
  M.idxF_i lr_len (by omega) hr rfl (by omega) (x := l.getD i zLr) (by rw [Int.toNat_natCast]; exact getL hi) h
set_option maxHeartbeats 1000000 in
theorem rkeep_ret (h : LN Lr.cells w D v l) (hf : l.length ≤ 1000000) :
    Ret Try.prog 10 #[v] w (fun r w' => LV vb w' (w.heap.size ≤ ·) r (keptB l) ∧ Keep w w' No) := by
  have h := h.mono (D' := (· < w.heap.size)) (fun b hb _ => hb)
  obtain ⟨A, c, rfl, hr, hcap⟩ := id h
  refine ok10 _ _ _ ?_
  unfold sh10
  (repeat (first|refine ja ?_|refine jb ?_|refine jc ?_|refine jd ?_|refine je ?_|refine jf ?_|refine jg ?_|refine jh ?_|refine ji ?_|refine jj ?_|refine jk ?_|refine jl ?_|refine jm ?_|refine jn ?_|refine jo ?_|refine jp ?_|refine jq ?_|refine jr ?_|refine js ?_|refine jt ?_|refine ju ?_|refine jv ?_|refine jw ?_|refine jx ?_|refine jy ?_|refine jz ?_|refine jA ?_|refine jB ?_|refine jC ?_|refine jD ?_|refine jE ?_|refine jF ?_|refine jG ?_|refine jH ?_|refine jI ?_|refine jJ ?_|refine jK ?_|refine jL ?_|refine jM (by assumption) ?_|refine jN (by assumption) rfl ?_|refine jO (by assumption) ?_|refine jP (by assumption) rfl ?_|refine jQ ?_|refine jR ?_|refine jS ?_|refine jT ?_|refine jU (by assumption) rfl ?_))
  refine M.makeSlice_i rfl rfl (by omega) (by omega) (fun w1 b1 k1 s1 => ?_)
  refine M.loop_i (σ := Nat) (fun i vals w' => vals = [vi (othN l i).length, vi i] ∧ i ≤ l.length ∧ Keep w1 w' No) (fun i => l.length - i) 0 ⟨by simp [othN], by omega, Keep.refl _ _⟩ ?_
  rintro i vals w2 K ⟨rfl, hi, k2⟩ hK _
  simp only [List.getD_cons_zero, List.getD_cons_succ]
  have hr2 := (hr.keep k1 (fun _ _ _ h => h)).keep k2 (fun _ _ _ h => h)
  have hol := othN_len l i
  by_cases hlt : i < l.length
  · (repeat (first|refine ja ?_|refine jb ?_|refine jc ?_|refine jd ?_|refine je ?_|refine jf ?_|refine jg ?_|refine jh ?_|refine ji ?_|refine jj ?_|refine jk ?_|refine jl ?_|refine jm ?_|refine jn ?_|refine jo ?_|refine jp ?_|refine jq ?_|refine jr ?_|refine js ?_|refine jt ?_|refine ju ?_|refine jv ?_|refine jw ?_|refine jx ?_|refine jy ?_|refine jz ?_|refine jA ?_|refine jB ?_|refine jC ?_|refine jD ?_|refine jE ?_|refine jF ?_|refine jG ?_|refine jH ?_|refine jI ?_|refine jJ ?_|refine jK ?_|refine jL ?_|refine jM (by assumption) ?_|refine jN (by assumption) rfl ?_|refine jO (by assumption) ?_|refine jP (by assumption) rfl ?_|refine jQ ?_|refine jR ?_|refine jS ?_|refine jT ?_|refine jU (by assumption) rfl ?_))
    refine M.share_j (fun vals w' => vals = [vi (othN l (i + 1)).length] ∧ Keep w1 w' No) ?_ ?_
    · rintro vals w3 ⟨rfl, k3⟩ _
      simp only [List.getD_cons_zero, List.getD_cons_succ]
      (repeat (first|refine ja ?_|refine jb ?_|refine jc ?_|refine jd ?_|refine je ?_|refine jf ?_|refine jg ?_|refine jh ?_|refine ji ?_|refine jj ?_|refine jk ?_|refine jl ?_|refine jm ?_|refine jn ?_|refine jo ?_|refine jp ?_|refine jq ?_|refine jr ?_|refine js ?_|refine jt ?_|refine ju ?_|refine jv ?_|refine jw ?_|refine jx ?_|refine jy ?_|refine jz ?_|refine jA ?_|refine jB ?_|refine jC ?_|refine jD ?_|refine jE ?_|refine jF ?_|refine jG ?_|refine jH ?_|refine jI ?_|refine jJ ?_|refine jK ?_|refine jL ?_|refine jM (by assumption) ?_|refine jN (by assumption) rfl ?_|refine jO (by assumption) ?_|refine jP (by assumption) rfl ?_|refine jQ ?_|refine jR ?_|refine jS ?_|refine jT ?_|refine jU (by assumption) rfl ?_))
      exact hK (i + 1) _ _ (by omega) ⟨rfl, by omega, k3⟩
    · intro K2 hK2
      refine M.idxLn_i hr2 hlt (fun bb oo hc => ?_)
      refine M.loadL_i hc ?_
      refine M.call_i (rsure_ret _ w2) ?_; rintro _ w3 ⟨rfl, k3⟩
      rw [othN_succ] at hK2
      have es : sureN l i = sureB (l.getD i zLr) := rfl
      cases hs : sureB (l.getD i zLr) with
      | true =>
        rw [es, hs] at hK2
        (repeat (first|refine ja ?_|refine jb ?_|refine jc ?_|refine jd ?_|refine je ?_|refine jf ?_|refine jg ?_|refine jh ?_|refine ji ?_|refine jj ?_|refine jk ?_|refine jl ?_|refine jm ?_|refine jn ?_|refine jo ?_|refine jp ?_|refine jq ?_|refine jr ?_|refine js ?_|refine jt ?_|refine ju ?_|refine jv ?_|refine jw ?_|refine jx ?_|refine jy ?_|refine jz ?_|refine jA ?_|refine jB ?_|refine jC ?_|refine jD ?_|refine jE ?_|refine jF ?_|refine jG ?_|refine jH ?_|refine jI ?_|refine jJ ?_|refine jK ?_|refine jL ?_|refine jM (by assumption) ?_|refine jN (by assumption) rfl ?_|refine jO (by assumption) ?_|refine jP (by assumption) rfl ?_|refine jQ ?_|refine jR ?_|refine jS ?_|refine jT ?_|refine jU (by assumption) rfl ?_))
        refine hK2 _ _ ⟨?_, k2.trans k3 (fun _ _ h => h)⟩; simp
      | false =>
        rw [es, hs] at hK2
        (repeat (first|refine ja ?_|refine jb ?_|refine jc ?_|refine jd ?_|refine je ?_|refine jf ?_|refine jg ?_|refine jh ?_|refine ji ?_|refine jj ?_|refine jk ?_|refine jl ?_|refine jm ?_|refine jn ?_|refine jo ?_|refine jp ?_|refine jq ?_|refine jr ?_|refine js ?_|refine jt ?_|refine ju ?_|refine jv ?_|refine jw ?_|refine jx ?_|refine jy ?_|refine jz ?_|refine jA ?_|refine jB ?_|refine jC ?_|refine jD ?_|refine jE ?_|refine jF ?_|refine jG ?_|refine jH ?_|refine jI ?_|refine jJ ?_|refine jK ?_|refine jL ?_|refine jM (by assumption) ?_|refine jN (by assumption) rfl ?_|refine jO (by assumption) ?_|refine jP (by assumption) rfl ?_|refine jQ ?_|refine jR ?_|refine jS ?_|refine jT ?_|refine jU (by assumption) rfl ?_))
        refine hK2 _ _ ⟨?_, k2.trans k3 (fun _ _ h => h)⟩; simp
  · have e : i = l.length := by omega
    subst e
    have b2 := b1.keep k2 (fun h => h)
    (repeat (first|refine ja ?_|refine jb ?_|refine jc ?_|refine jd ?_|refine je ?_|refine jf ?_|refine jg ?_|refine jh ?_|refine ji ?_|refine jj ?_|refine jk ?_|refine jl ?_|refine jm ?_|refine jn ?_|refine jo ?_|refine jp ?_|refine jq ?_|refine jr ?_|refine js ?_|refine jt ?_|refine ju ?_|refine jv ?_|refine jw ?_|refine jx ?_|refine jy ?_|refine jz ?_|refine jA ?_|refine jB ?_|refine jC ?_|refine jD ?_|refine jE ?_|refine jF ?_|refine jG ?_|refine jH ?_|refine jI ?_|refine jJ ?_|refine jK ?_|refine jL ?_|refine jM (by assumption) ?_|refine jN (by assumption) rfl ?_|refine jO (by assumption) ?_|refine jP (by assumption) rfl ?_|refine jQ ?_|refine jR ?_|refine jS ?_|refine jT ?_|refine jU (by assumption) rfl ?_))
    refine M.loop_i (σ := Nat) (fun i vals w' => ∃ out : List Bool, vals = [vi i] ∧ i ≤ l.length ∧ out.length = l.length ∧ Blk w' w.heap.size (out.map vb) ∧ (∀ j, j < i → out[j]? = some (sureN l j || decide ((aheadN l j l.length).length < ((othN l l.length).length + 1) / 2))) ∧ Keep w1 w' (· = w.heap.size)) (fun i => l.length - i) 0
      ⟨List.replicate l.length false, rfl, by omega, by simp, by rw [List.map_replicate]; exact b2, fun j hj => by omega, k2.mono (fun _ _ h => h.elim)⟩ ?_
    rintro i vals w3 K2 ⟨out, rfl, hi, hol3, b3, ho3, k3⟩ hK2 _
    simp only [List.getD_cons_zero, List.getD_cons_succ]
    have hr3 := (hr.keep k1 (fun _ _ _ h => h)).keep k3 (fun b hb h1 h2 => by have h1 : b < w.heap.size := h1; have h2 : b = w.heap.size := h2; omega)
    by_cases hlt : i < l.length
    · (repeat (first|refine ja ?_|refine jb ?_|refine jc ?_|refine jd ?_|refine je ?_|refine jf ?_|refine jg ?_|refine jh ?_|refine ji ?_|refine jj ?_|refine jk ?_|refine jl ?_|refine jm ?_|refine jn ?_|refine jo ?_|refine jp ?_|refine jq ?_|refine jr ?_|refine js ?_|refine jt ?_|refine ju ?_|refine jv ?_|refine jw ?_|refine jx ?_|refine jy ?_|refine jz ?_|refine jA ?_|refine jB ?_|refine jC ?_|refine jD ?_|refine jE ?_|refine jF ?_|refine jG ?_|refine jH ?_|refine jI ?_|refine jJ ?_|refine jK ?_|refine jL ?_|refine jM (by assumption) ?_|refine jN (by assumption) rfl ?_|refine jO (by assumption) ?_|refine jP (by assumption) rfl ?_|refine jQ ?_|refine jR ?_|refine jS ?_|refine jT ?_|refine jU (by assumption) rfl ?_))
      refine M.share_j (fun vals w' => ∃ out : List Bool, out.length = l.length ∧ Blk w' w.heap.size (out.map vb) ∧ (∀ j, j < i + 1 → out[j]? = some (sureN l j || decide ((aheadN l j l.length).length < ((othN l l.length).length + 1) / 2))) ∧ Keep w1 w' (· = w.heap.size)) ?_ ?_
      · rintro vals w4 ⟨out, a1, a2, a3, a4⟩ _
        (repeat (first|refine ja ?_|refine jb ?_|refine jc ?_|refine jd ?_|refine je ?_|refine jf ?_|refine jg ?_|refine jh ?_|refine ji ?_|refine jj ?_|refine jk ?_|refine jl ?_|refine jm ?_|refine jn ?_|refine jo ?_|refine jp ?_|refine jq ?_|refine jr ?_|refine js ?_|refine jt ?_|refine ju ?_|refine jv ?_|refine jw ?_|refine jx ?_|refine jy ?_|refine jz ?_|refine jA ?_|refine jB ?_|refine jC ?_|refine jD ?_|refine jE ?_|refine jF ?_|refine jG ?_|refine jH ?_|refine jI ?_|refine jJ ?_|refine jK ?_|refine jL ?_|refine jM (by assumption) ?_|refine jN (by assumption) rfl ?_|refine jO (by assumption) ?_|refine jP (by assumption) rfl ?_|refine jQ ?_|refine jR ?_|refine jS ?_|refine jT ?_|refine jU (by assumption) rfl ?_))
        exact hK2 (i + 1) _ _ (by omega) ⟨out, rfl, by omega, a1, a2, a3, a4⟩
      · intro K4 hK4
        refine M.idxLn_i hr3 hlt (fun bb oo hc => ?_)
        refine M.loadL_i hc ?_
        refine M.call_i (rsure_ret _ w3) ?_; rintro _ w4 ⟨rfl, k4⟩
        have es : sureN l i = sureB (l.getD i zLr) := rfl
        have b4 := b3.keep k4 (fun h => h)
        have k14 := k3.trans k4 (fun _ _ h => h.elim)
        have hil : i < (out.map vb).length := by rw [List.length_map]; omega
        have fin : ∀ w5 (s : Bool), s = (sureN l i || decide ((aheadN l i l.length).length < ((othN l l.length).length + 1) / 2)) → Blk w5 w.heap.size ((out.map vb).set i (vb s)) → Keep w1 w5 (· = w.heap.size) → K4 [] w5 := fun w5 s hs b5 k5 =>
          hK4 _ _ ⟨out.set i s, by rw [List.length_set]; exact hol3, by rw [List.map_set]; exact b5, fun j hj => by
            rw [List.getElem?_set]
            by_cases e : i = j
            · subst e; rw [if_pos rfl, if_pos (by omega), hs]
            · rw [if_neg e]; exact ho3 j (by omega), k5⟩
        cases hs : sureB (l.getD i zLr) with
        | true =>
          (repeat (first|refine ja ?_|refine jb ?_|refine jc ?_|refine jd ?_|refine je ?_|refine jf ?_|refine jg ?_|refine jh ?_|refine ji ?_|refine jj ?_|refine jk ?_|refine jl ?_|refine jm ?_|refine jn ?_|refine jo ?_|refine jp ?_|refine jq ?_|refine jr ?_|refine js ?_|refine jt ?_|refine ju ?_|refine jv ?_|refine jw ?_|refine jx ?_|refine jy ?_|refine jz ?_|refine jA ?_|refine jB ?_|refine jC ?_|refine jD ?_|refine jE ?_|refine jF ?_|refine jG ?_|refine jH ?_|refine jI ?_|refine jJ ?_|refine jK ?_|refine jL ?_|refine jM (by assumption) ?_|refine jN (by assumption) rfl ?_|refine jO (by assumption) ?_|refine jP (by assumption) rfl ?_|refine jQ ?_|refine jR ?_|refine jS ?_|refine jT ?_|refine jU (by assumption) rfl ?_))
          refine M.idx_i (by omega) (by omega) ?_
          simp only [Nat.zero_add, Nat.mul_one, Int.toNat_natCast]
          refine M.store_i b4 hil rfl (fun w5 b5 k5 s5 => ?_)
          exact fin w5 true (by rw [es, hs]; rfl) b5 (k14.trans k5 (fun _ _ h => h))
        | false =>
          (repeat (first|refine ja ?_|refine jb ?_|refine jc ?_|refine jd ?_|refine je ?_|refine jf ?_|refine jg ?_|refine jh ?_|refine ji ?_|refine jj ?_|refine jk ?_|refine jl ?_|refine jm ?_|refine jn ?_|refine jo ?_|refine jp ?_|refine jq ?_|refine jr ?_|refine js ?_|refine jt ?_|refine ju ?_|refine jv ?_|refine jw ?_|refine jx ?_|refine jy ?_|refine jz ?_|refine jA ?_|refine jB ?_|refine jC ?_|refine jD ?_|refine jE ?_|refine jF ?_|refine jG ?_|refine jH ?_|refine jI ?_|refine jJ ?_|refine jK ?_|refine jL ?_|refine jM (by assumption) ?_|refine jN (by assumption) rfl ?_|refine jO (by assumption) ?_|refine jP (by assumption) rfl ?_|refine jQ ?_|refine jR ?_|refine jS ?_|refine jT ?_|refine jU (by assumption) rfl ?_))
          refine M.loop_i (σ := Nat) (fun k vals w' => vals = [vi (aheadN l i k).length, vi k] ∧ k ≤ l.length ∧ Keep w4 w' No) (fun k => l.length - k) 0 ⟨by simp [aheadN], by omega, Keep.refl _ _⟩ ?_
          rintro k vals w5 K5 ⟨rfl, hk, k5⟩ hK5 _
          simp only [List.getD_cons_zero, List.getD_cons_succ]
          have hr5 := (hr3.keep k4 (fun _ _ _ h => h)).keep k5 (fun _ _ _ h => h)
          have hal := aheadN_len l i k
          by_cases hkl : k < l.length
          · have kd := k5.trans (Keep.drew w5 No) (fun _ _ h => h)
            have hrd := hr5.keep (Keep.drew w5 No) (fun _ _ _ h => h)
            (repeat (first|refine ja ?_|refine jb ?_|refine jc ?_|refine jd ?_|refine je ?_|refine jf ?_|refine jg ?_|refine jh ?_|refine ji ?_|refine jj ?_|refine jk ?_|refine jl ?_|refine jm ?_|refine jn ?_|refine jo ?_|refine jp ?_|refine jq ?_|refine jr ?_|refine js ?_|refine jt ?_|refine ju ?_|refine jv ?_|refine jw ?_|refine jx ?_|refine jy ?_|refine jz ?_|refine jA ?_|refine jB ?_|refine jC ?_|refine jD ?_|refine jE ?_|refine jF ?_|refine jG ?_|refine jH ?_|refine jI ?_|refine jJ ?_|refine jK ?_|refine jL ?_|refine jM (by assumption) ?_|refine jN (by assumption) rfl ?_|refine jO (by assumption) ?_|refine jP (by assumption) rfl ?_|refine jQ ?_|refine jR ?_|refine jS ?_|refine jT ?_|refine jU (by assumption) rfl ?_))
            refine M.share_j (fun vals w' => vals = [vi (aheadN l i (k + 1)).length] ∧ Keep w4 w' No) ?_ ?_
            · rintro vals w6 ⟨rfl, k6⟩ _
              simp only [List.getD_cons_zero, List.getD_cons_succ]
              (repeat (first|refine ja ?_|refine jb ?_|refine jc ?_|refine jd ?_|refine je ?_|refine jf ?_|refine jg ?_|refine jh ?_|refine ji ?_|refine jj ?_|refine jk ?_|refine jl ?_|refine jm ?_|refine jn ?_|refine jo ?_|refine jp ?_|refine jq ?_|refine jr ?_|refine js ?_|refine jt ?_|refine ju ?_|refine jv ?_|refine jw ?_|refine jx ?_|refine jy ?_|refine jz ?_|refine jA ?_|refine jB ?_|refine jC ?_|refine jD ?_|refine jE ?_|refine jF ?_|refine jG ?_|refine jH ?_|refine jI ?_|refine jJ ?_|refine jK ?_|refine jL ?_|refine jM (by assumption) ?_|refine jN (by assumption) rfl ?_|refine jO (by assumption) ?_|refine jP (by assumption) rfl ?_|refine jQ ?_|refine jR ?_|refine jS ?_|refine jT ?_|refine jU (by assumption) rfl ?_))
              exact hK5 (k + 1) _ _ (by omega) ⟨rfl, by omega, k6⟩
            · intro K6 hK6
              (repeat (first|refine ja ?_|refine jb ?_|refine jc ?_|refine jd ?_|refine je ?_|refine jf ?_|refine jg ?_|refine jh ?_|refine ji ?_|refine jj ?_|refine jk ?_|refine jl ?_|refine jm ?_|refine jn ?_|refine jo ?_|refine jp ?_|refine jq ?_|refine jr ?_|refine js ?_|refine jt ?_|refine ju ?_|refine jv ?_|refine jw ?_|refine jx ?_|refine jy ?_|refine jz ?_|refine jA ?_|refine jB ?_|refine jC ?_|refine jD ?_|refine jE ?_|refine jF ?_|refine jG ?_|refine jH ?_|refine jI ?_|refine jJ ?_|refine jK ?_|refine jL ?_|refine jM (by assumption) ?_|refine jN (by assumption) rfl ?_|refine jO (by assumption) ?_|refine jP (by assumption) rfl ?_|refine jQ ?_|refine jR ?_|refine jS ?_|refine jT ?_|refine jU (by assumption) rfl ?_))
              refine M.idxLn_i hrd hkl (fun bb oo hc => ?_)
              refine M.loadL_i hc ?_
              refine M.call_i (rsure_ret _ w5.drew) ?_; rintro _ w6 ⟨rfl, k6⟩
              rw [aheadN_succ] at hK6
              have ek : sureN l k = sureB (l.getD k zLr) := rfl
              have k46 := kd.trans k6 (fun _ _ h => h)
              have hr6 := hrd.keep k6 (fun _ _ _ h => h)
              refine M.not_i ?_
              cases hsk : sureB (l.getD k zLr) with
              | true =>
                rw [ek, hsk] at hK6
                (repeat (first|refine ja ?_|refine jb ?_|refine jc ?_|refine jd ?_|refine je ?_|refine jf ?_|refine jg ?_|refine jh ?_|refine ji ?_|refine jj ?_|refine jk ?_|refine jl ?_|refine jm ?_|refine jn ?_|refine jo ?_|refine jp ?_|refine jq ?_|refine jr ?_|refine js ?_|refine jt ?_|refine ju ?_|refine jv ?_|refine jw ?_|refine jx ?_|refine jy ?_|refine jz ?_|refine jA ?_|refine jB ?_|refine jC ?_|refine jD ?_|refine jE ?_|refine jF ?_|refine jG ?_|refine jH ?_|refine jI ?_|refine jJ ?_|refine jK ?_|refine jL ?_|refine jM (by assumption) ?_|refine jN (by assumption) rfl ?_|refine jO (by assumption) ?_|refine jP (by assumption) rfl ?_|refine jQ ?_|refine jR ?_|refine jS ?_|refine jT ?_|refine jU (by assumption) rfl ?_|refine jG ?_ (by decide)|refine jH ?_ (by decide)|refine jI ?_ (by decide)|refine jJ ?_ (by decide)|refine jC ?_ (by decide)|refine jy ?_ (by decide)))
                refine hK6 _ _ ⟨?_, k46⟩; simp
              | false =>
                rw [ek, hsk] at hK6
                (repeat (first|refine ja ?_|refine jb ?_|refine jc ?_|refine jd ?_|refine je ?_|refine jf ?_|refine jg ?_|refine jh ?_|refine ji ?_|refine jj ?_|refine jk ?_|refine jl ?_|refine jm ?_|refine jn ?_|refine jo ?_|refine jp ?_|refine jq ?_|refine jr ?_|refine js ?_|refine jt ?_|refine ju ?_|refine jv ?_|refine jw ?_|refine jx ?_|refine jy ?_|refine jz ?_|refine jA ?_|refine jB ?_|refine jC ?_|refine jD ?_|refine jE ?_|refine jF ?_|refine jG ?_|refine jH ?_|refine jI ?_|refine jJ ?_|refine jK ?_|refine jL ?_|refine jM (by assumption) ?_|refine jN (by assumption) rfl ?_|refine jO (by assumption) ?_|refine jP (by assumption) rfl ?_|refine jQ ?_|refine jR ?_|refine jS ?_|refine jT ?_|refine jU (by assumption) rfl ?_|refine jG ?_ (by decide)|refine jH ?_ (by decide)|refine jI ?_ (by decide)|refine jJ ?_ (by decide)|refine jC ?_ (by decide)|refine jy ?_ (by decide)))
                refine M.idxLn_i hr6 hkl (fun bb oo hc1 => ?_)
                refine M.gd_tt ?_
                refine M.loadL_i hc1 ?_
                (repeat (first|refine ja ?_|refine jb ?_|refine jc ?_|refine jd ?_|refine je ?_|refine jf ?_|refine jg ?_|refine jh ?_|refine ji ?_|refine jj ?_|refine jk ?_|refine jl ?_|refine jm ?_|refine jn ?_|refine jo ?_|refine jp ?_|refine jq ?_|refine jr ?_|refine js ?_|refine jt ?_|refine ju ?_|refine jv ?_|refine jw ?_|refine jx ?_|refine jy ?_|refine jz ?_|refine jA ?_|refine jB ?_|refine jC ?_|refine jD ?_|refine jE ?_|refine jF ?_|refine jG ?_|refine jH ?_|refine jI ?_|refine jJ ?_|refine jK ?_|refine jL ?_|refine jM (by assumption) ?_|refine jN (by assumption) rfl ?_|refine jO (by assumption) ?_|refine jP (by assumption) rfl ?_|refine jQ ?_|refine jR ?_|refine jS ?_|refine jT ?_|refine jU (by assumption) rfl ?_|refine jG ?_ (by decide)|refine jH ?_ (by decide)|refine jI ?_ (by decide)|refine jJ ?_ (by decide)|refine jC ?_ (by decide)|refine jy ?_ (by decide)))
                refine M.idxLn_i hr6 hlt (fun bb oo hc2 => ?_)
                refine M.gd_tt ?_
                refine M.loadL_i hc2 ?_
                refine M.gd_tt ?_
                refine M.call_i (rbetter_ret _ _ w6) ?_; rintro _ w7 ⟨rfl, k7⟩
                have eb : ltL l k i = betB (l.getD k zLr) (l.getD i zLr) := rfl
                have eb2 : ltL l i k = betB (l.getD i zLr) (l.getD k zLr) := rfl
                unfold bfB at hK6
                rw [eb, eb2] at hK6
                have hr7 := hr6.keep k7 (fun _ _ _ h => h)
                have k47 := k46.trans k7 (fun _ _ h => h)
                cases hb1 : betB (l.getD k zLr) (l.getD i zLr) with
                | true =>
                  rw [hb1] at hK6
                  (repeat (first|refine ja ?_|refine jb ?_|refine jc ?_|refine jd ?_|refine je ?_|refine jf ?_|refine jg ?_|refine jh ?_|refine ji ?_|refine jj ?_|refine jk ?_|refine jl ?_|refine jm ?_|refine jn ?_|refine jo ?_|refine jp ?_|refine jq ?_|refine jr ?_|refine js ?_|refine jt ?_|refine ju ?_|refine jv ?_|refine jw ?_|refine jx ?_|refine jy ?_|refine jz ?_|refine jA ?_|refine jB ?_|refine jC ?_|refine jD ?_|refine jE ?_|refine jF ?_|refine jG ?_|refine jH ?_|refine jI ?_|refine jJ ?_|refine jK ?_|refine jL ?_|refine jM (by assumption) ?_|refine jN (by assumption) rfl ?_|refine jO (by assumption) ?_|refine jP (by assumption) rfl ?_|refine jQ ?_|refine jR ?_|refine jS ?_|refine jT ?_|refine jU (by assumption) rfl ?_|refine jG ?_ (by decide)|refine jH ?_ (by decide)|refine jI ?_ (by decide)|refine jJ ?_ (by decide)|refine jC ?_ (by decide)|refine jy ?_ (by decide)))
                  refine hK6 _ _ ⟨?_, k47⟩; simp
                | false =>
                  rw [hb1] at hK6
                  by_cases hki : k < i
                  · rw [decide_eq_true hki] at hK6
                    (repeat (first|refine ja ?_|refine jb ?_|refine jc ?_|refine jd ?_|refine je ?_|refine jf ?_|refine jg ?_|refine jh ?_|refine ji ?_|refine jj ?_|refine jk ?_|refine jl ?_|refine jm ?_|refine jn ?_|refine jo ?_|refine jp ?_|refine jq ?_|refine jr ?_|refine js ?_|refine jt ?_|refine ju ?_|refine jv ?_|refine jw ?_|refine jx ?_|refine jy ?_|refine jz ?_|refine jA ?_|refine jB ?_|refine jC ?_|refine jD ?_|refine jE ?_|refine jF ?_|refine jG ?_|refine jH ?_|refine jI ?_|refine jJ ?_|refine jK ?_|refine jL ?_|refine jM (by assumption) ?_|refine jN (by assumption) rfl ?_|refine jO (by assumption) ?_|refine jP (by assumption) rfl ?_|refine jQ ?_|refine jR ?_|refine jS ?_|refine jT ?_|refine jU (by assumption) rfl ?_|refine jG ?_ (by decide)|refine jH ?_ (by decide)|refine jI ?_ (by decide)|refine jJ ?_ (by decide)|refine jC ?_ (by decide)|refine jy ?_ (by decide)))
                    refine M.idxLn_i hr7 hlt (fun bb oo hc3 => ?_)
                    refine M.gd_tt ?_
                    refine M.loadL_i hc3 ?_
                    (repeat (first|refine ja ?_|refine jb ?_|refine jc ?_|refine jd ?_|refine je ?_|refine jf ?_|refine jg ?_|refine jh ?_|refine ji ?_|refine jj ?_|refine jk ?_|refine jl ?_|refine jm ?_|refine jn ?_|refine jo ?_|refine jp ?_|refine jq ?_|refine jr ?_|refine js ?_|refine jt ?_|refine ju ?_|refine jv ?_|refine jw ?_|refine jx ?_|refine jy ?_|refine jz ?_|refine jA ?_|refine jB ?_|refine jC ?_|refine jD ?_|refine jE ?_|refine jF ?_|refine jG ?_|refine jH ?_|refine jI ?_|refine jJ ?_|refine jK ?_|refine jL ?_|refine jM (by assumption) ?_|refine jN (by assumption) rfl ?_|refine jO (by assumption) ?_|refine jP (by assumption) rfl ?_|refine jQ ?_|refine jR ?_|refine jS ?_|refine jT ?_|refine jU (by assumption) rfl ?_|refine jG ?_ (by decide)|refine jH ?_ (by decide)|refine jI ?_ (by decide)|refine jJ ?_ (by decide)|refine jC ?_ (by decide)|refine jy ?_ (by decide)))
                    refine M.idxLn_i hr7 hkl (fun bb oo hc4 => ?_)
                    refine M.gd_tt ?_
                    refine M.loadL_i hc4 ?_
                    refine M.gd_tt ?_
                    refine M.call_i (rbetter_ret _ _ w7) ?_; rintro _ w8 ⟨rfl, k8⟩
                    have k48 := k47.trans k8 (fun _ _ h => h)
                    cases hb2 : betB (l.getD i zLr) (l.getD k zLr) with
                    | true =>
                      rw [hb2] at hK6
                      (repeat (first|refine ja ?_|refine jb ?_|refine jc ?_|refine jd ?_|refine je ?_|refine jf ?_|refine jg ?_|refine jh ?_|refine ji ?_|refine jj ?_|refine jk ?_|refine jl ?_|refine jm ?_|refine jn ?_|refine jo ?_|refine jp ?_|refine jq ?_|refine jr ?_|refine js ?_|refine jt ?_|refine ju ?_|refine jv ?_|refine jw ?_|refine jx ?_|refine jy ?_|refine jz ?_|refine jA ?_|refine jB ?_|refine jC ?_|refine jD ?_|refine jE ?_|refine jF ?_|refine jG ?_|refine jH ?_|refine jI ?_|refine jJ ?_|refine jK ?_|refine jL ?_|refine jM (by assumption) ?_|refine jN (by assumption) rfl ?_|refine jO (by assumption) ?_|refine jP (by assumption) rfl ?_|refine jQ ?_|refine jR ?_|refine jS ?_|refine jT ?_|refine jU (by assumption) rfl ?_|refine jG ?_ (by decide)|refine jH ?_ (by decide)|refine jI ?_ (by decide)|refine jJ ?_ (by decide)|refine jC ?_ (by decide)|refine jy ?_ (by decide)))
                      refine hK6 _ _ ⟨?_, k48⟩; simp
                    | false =>
                      rw [hb2] at hK6
                      (repeat (first|refine ja ?_|refine jb ?_|refine jc ?_|refine jd ?_|refine je ?_|refine jf ?_|refine jg ?_|refine jh ?_|refine ji ?_|refine jj ?_|refine jk ?_|refine jl ?_|refine jm ?_|refine jn ?_|refine jo ?_|refine jp ?_|refine jq ?_|refine jr ?_|refine js ?_|refine jt ?_|refine ju ?_|refine jv ?_|refine jw ?_|refine jx ?_|refine jy ?_|refine jz ?_|refine jA ?_|refine jB ?_|refine jC ?_|refine jD ?_|refine jE ?_|refine jF ?_|refine jG ?_|refine jH ?_|refine jI ?_|refine jJ ?_|refine jK ?_|refine jL ?_|refine jM (by assumption) ?_|refine jN (by assumption) rfl ?_|refine jO (by assumption) ?_|refine jP (by assumption) rfl ?_|refine jQ ?_|refine jR ?_|refine jS ?_|refine jT ?_|refine jU (by assumption) rfl ?_|refine jG ?_ (by decide)|refine jH ?_ (by decide)|refine jI ?_ (by decide)|refine jJ ?_ (by decide)|refine jC ?_ (by decide)|refine jy ?_ (by decide)))
                      refine hK6 _ _ ⟨?_, k48⟩; simp
                  · rw [decide_eq_false hki] at hK6
                    (repeat (first|refine ja ?_|refine jb ?_|refine jc ?_|refine jd ?_|refine je ?_|refine jf ?_|refine jg ?_|refine jh ?_|refine ji ?_|refine jj ?_|refine jk ?_|refine jl ?_|refine jm ?_|refine jn ?_|refine jo ?_|refine jp ?_|refine jq ?_|refine jr ?_|refine js ?_|refine jt ?_|refine ju ?_|refine jv ?_|refine jw ?_|refine jx ?_|refine jy ?_|refine jz ?_|refine jA ?_|refine jB ?_|refine jC ?_|refine jD ?_|refine jE ?_|refine jF ?_|refine jG ?_|refine jH ?_|refine jI ?_|refine jJ ?_|refine jK ?_|refine jL ?_|refine jM (by assumption) ?_|refine jN (by assumption) rfl ?_|refine jO (by assumption) ?_|refine jP (by assumption) rfl ?_|refine jQ ?_|refine jR ?_|refine jS ?_|refine jT ?_|refine jU (by assumption) rfl ?_|refine jG ?_ (by decide)|refine jH ?_ (by decide)|refine jI ?_ (by decide)|refine jJ ?_ (by decide)|refine jC ?_ (by decide)|refine jy ?_ (by decide)))
                    refine hK6 _ _ ⟨?_, k47⟩; simp
          · have e : k = l.length := by omega
            subst e
            have hoall := othN_len l l.length
            (repeat (first|refine ja ?_|refine jb ?_|refine jc ?_|refine jd ?_|refine je ?_|refine jf ?_|refine jg ?_|refine jh ?_|refine ji ?_|refine jj ?_|refine jk ?_|refine jl ?_|refine jm ?_|refine jn ?_|refine jo ?_|refine jp ?_|refine jq ?_|refine jr ?_|refine js ?_|refine jt ?_|refine ju ?_|refine jv ?_|refine jw ?_|refine jx ?_|refine jy ?_|refine jz ?_|refine jA ?_|refine jB ?_|refine jC ?_|refine jD ?_|refine jE ?_|refine jF ?_|refine jG ?_|refine jH ?_|refine jI ?_|refine jJ ?_|refine jK ?_|refine jL ?_|refine jM (by assumption) ?_|refine jN (by assumption) rfl ?_|refine jO (by assumption) ?_|refine jP (by assumption) rfl ?_|refine jQ ?_|refine jR ?_|refine jS ?_|refine jT ?_|refine jU (by assumption) rfl ?_))
            refine M.quo2_i (by omega) (by omega) ?_
            refine M.lss_i ?_
            refine M.idx_i (by omega) (by omega) ?_
            simp only [Nat.zero_add, Nat.mul_one, Int.toNat_natCast]
            refine M.store_i (b4.keep k5 (fun h => h)) hil rfl (fun w6 b6 k6 s6 => ?_)
            refine fin w6 _ ?_ b6 ((k14.trans k5 (fun _ _ h => h.elim)).trans k6 (fun _ _ h => h))
            rw [es, hs, Bool.false_or]
            exact decide_eq_decide.2 ⟨fun h => by omega, fun h => by omega⟩
    · have e : i = l.length := by omega
      subst e
      (repeat (first|refine ja ?_|refine jb ?_|refine jc ?_|refine jd ?_|refine je ?_|refine jf ?_|refine jg ?_|refine jh ?_|refine ji ?_|refine jj ?_|refine jk ?_|refine jl ?_|refine jm ?_|refine jn ?_|refine jo ?_|refine jp ?_|refine jq ?_|refine jr ?_|refine js ?_|refine jt ?_|refine ju ?_|refine jv ?_|refine jw ?_|refine jx ?_|refine jy ?_|refine jz ?_|refine jA ?_|refine jB ?_|refine jC ?_|refine jD ?_|refine jE ?_|refine jF ?_|refine jG ?_|refine jH ?_|refine jI ?_|refine jJ ?_|refine jK ?_|refine jL ?_|refine jM (by assumption) ?_|refine jN (by assumption) rfl ?_|refine jO (by assumption) ?_|refine jP (by assumption) rfl ?_|refine jQ ?_|refine jR ?_|refine jS ?_|refine jT ?_|refine jU (by assumption) rfl ?_))
      have ek : out = keptB l := by
        apply List.ext_getElem?
        intro j
        by_cases hj : j < l.length
        · rw [ho3 j hj, kept_at hj]
        · rw [List.getElem?_eq_none (by omega), List.getElem?_eq_none (by rw [kept_len]; omega)]
      subst ek
      exact ⟨⟨_, _, by rw [kept_len], Row.of_blk' b3 (by show w.heap.size ≤ w.heap.size; omega), by rw [kept_len]; exact Nat.le_refl _⟩, k1.trans k3 (fun b hb h => by have h : b = w.heap.size := h; omega)⟩
end
/-! ### the example -/
abbrev aL : List Lr := [⟨9, 5, 0⟩, ⟨9, 3, 0⟩, ⟨9, 4, 0⟩]
theorem awake13_ret (w : World) : Ret Try.prog 5 #[] w (fun v w' => v = .bool true ∧ Keep w w' No) := by
  have ck : keptB aL = [false, true, true] := by kernel_rfl
  refine ok5 _ _ ?_
  unfold sh5
  refine M.pure_i (.agg #[vi 9, vi 5, vi 0]) (fun _ => by kernel_rfl) ?_
  refine M.pure_i (.agg #[vi 9, vi 3, vi 0]) (fun _ => by kernel_rfl) ?_
  refine M.pure_i (.agg #[vi 9, vi 4, vi 0]) (fun _ => by kernel_rfl) ?_
  refine M.buildSlice_i (aL.flatMap Lr.cells) (by kernel_rfl) (fun w1 b1 k1 s1 => ?_)
  have hl1 : LN Lr.cells w1 (fun _ => True) (.slice (some ⟨w.heap.size, 0, none⟩) 3 3) aL := ⟨_, _, rfl, Row.of_blk' b1 trivial, Nat.le_refl _⟩
  refine M.share_j (fun vals w' => vals = [.bool true] ∧ Keep w w' No) ?_ ?_
  · rintro vals w2 ⟨rfl, k2⟩ _
    exact ⟨rfl, k2⟩
  · intro K hK
    refine M.draw_i ?_
    have kd := Keep.drew w1 No
    have hl2 := hl1.keep kd (fun _ _ _ h => h)
    have e3 : w1.drew.heap.size = w1.heap.size := rfl
    have k1d := k1.trans kd (fun _ _ h => h)
    revert hl2 k1d
    generalize w1.drew = w2
    intro hl2 k1d
    obtain ⟨_, _, he, hr2, _⟩ := id hl2
    simp only [Value.slice.injEq] at he
    obtain ⟨rfl, _, rfl⟩ := he
    refine ⟨?_, ?_⟩
    · refine M.call_i (keep_ret hl2 (by decide)) ?_; rintro rv w3 ⟨hrv, _, k3⟩
      refine M.buildSlice_i (([false, true, true] : List Bool).map vb) (by kernel_rfl) (fun w4 b4 k4 s4 => ?_)
      refine M.call_i (bools_ret (hrv.keep k4 (fun _ _ _ h => h)) (D' := fun _ => True) (ys := [false, true, true]) ⟨_, _, rfl, Row.of_blk' b4 trivial, Nat.le_refl _⟩ (by rw [ck]; show 3 ≤ 100000000000; omega)) ?_; rintro _ w5 ⟨rfl, k5⟩
      rw [decide_eq_true ck]
      have k25 := (k3.trans k4 (fun _ _ h => h)).trans k5 (fun _ _ h => h)
      have hr5 := hr2.keep k25 (fun _ _ _ h => h)
      (repeat (first|refine ja ?_|refine jb ?_|refine jc ?_|refine jd ?_|refine je ?_|refine jf ?_|refine jg ?_|refine jh ?_|refine ji ?_|refine jj ?_|refine jk ?_|refine jl ?_|refine jm ?_|refine jn ?_|refine jo ?_|refine jp ?_|refine jq ?_|refine jr ?_|refine js ?_|refine jt ?_|refine ju ?_|refine jv ?_|refine jw ?_|refine jx ?_|refine jy ?_|refine jz ?_|refine jA ?_|refine jB ?_|refine jC ?_|refine jD ?_|refine jE ?_|refine jF ?_|refine jG ?_|refine jH ?_|refine jI ?_|refine jJ ?_|refine jK ?_|refine jL ?_|refine jM (by assumption) ?_|refine jN (by assumption) rfl ?_|refine jO (by assumption) ?_|refine jP (by assumption) rfl ?_|refine jQ ?_|refine jR ?_|refine jS ?_|refine jT ?_|refine jU (by assumption) rfl ?_|refine jG ?_ (by decide)|refine jH ?_ (by decide)|refine jI ?_ (by decide)|refine jJ ?_ (by decide)|refine jC ?_ (by decide)|refine jy ?_ (by decide)))
      refine M.idxL_i (l := aL) hr5 (by decide) (x := ⟨9, 3, 0⟩) rfl (fun bb oo hc => ?_)
      refine M.gd_tt ?_
      refine M.loadL_i hc ?_
      (repeat (first|refine ja ?_|refine jb ?_|refine jc ?_|refine jd ?_|refine je ?_|refine jf ?_|refine jg ?_|refine jh ?_|refine ji ?_|refine jj ?_|refine jk ?_|refine jl ?_|refine jm ?_|refine jn ?_|refine jo ?_|refine jp ?_|refine jq ?_|refine jr ?_|refine js ?_|refine jt ?_|refine ju ?_|refine jv ?_|refine jw ?_|refine jx ?_|refine jy ?_|refine jz ?_|refine jA ?_|refine jB ?_|refine jC ?_|refine jD ?_|refine jE ?_|refine jF ?_|refine jG ?_|refine jH ?_|refine jI ?_|refine jJ ?_|refine jK ?_|refine jL ?_|refine jM (by assumption) ?_|refine jN (by assumption) rfl ?_|refine jO (by assumption) ?_|refine jP (by assumption) rfl ?_|refine jQ ?_|refine jR ?_|refine jS ?_|refine jT ?_|refine jU (by assumption) rfl ?_|refine jG ?_ (by decide)|refine jH ?_ (by decide)|refine jI ?_ (by decide)|refine jJ ?_ (by decide)|refine jC ?_ (by decide)|refine jy ?_ (by decide)))
      refine M.idxL_i (l := aL) hr5 (by decide) (x := ⟨9, 5, 0⟩) rfl (fun bb oo hc => ?_)
      refine M.gd_tt ?_
      refine M.loadL_i hc ?_
      refine M.gd_tt ?_
      refine M.call_i (better_ret _ _ w5) ?_; rintro _ w6 ⟨rfl, k6⟩
      have c1 : betB ⟨9, 3, 0⟩ ⟨9, 5, 0⟩ = true := by decide
      rw [c1]
      have hr6 := hr5.keep k6 (fun _ _ _ h => h)
      (repeat (first|refine ja ?_|refine jb ?_|refine jc ?_|refine jd ?_|refine je ?_|refine jf ?_|refine jg ?_|refine jh ?_|refine ji ?_|refine jj ?_|refine jk ?_|refine jl ?_|refine jm ?_|refine jn ?_|refine jo ?_|refine jp ?_|refine jq ?_|refine jr ?_|refine js ?_|refine jt ?_|refine ju ?_|refine jv ?_|refine jw ?_|refine jx ?_|refine jy ?_|refine jz ?_|refine jA ?_|refine jB ?_|refine jC ?_|refine jD ?_|refine jE ?_|refine jF ?_|refine jG ?_|refine jH ?_|refine jI ?_|refine jJ ?_|refine jK ?_|refine jL ?_|refine jM (by assumption) ?_|refine jN (by assumption) rfl ?_|refine jO (by assumption) ?_|refine jP (by assumption) rfl ?_|refine jQ ?_|refine jR ?_|refine jS ?_|refine jT ?_|refine jU (by assumption) rfl ?_|refine jG ?_ (by decide)|refine jH ?_ (by decide)|refine jI ?_ (by decide)|refine jJ ?_ (by decide)|refine jC ?_ (by decide)|refine jy ?_ (by decide)))
      refine M.idxL_i (l := aL) hr6 (by decide) (x := ⟨9, 5, 0⟩) rfl (fun bb oo hc => ?_)
      refine M.gd_tt ?_
      refine M.loadL_i hc ?_
      (repeat (first|refine ja ?_|refine jb ?_|refine jc ?_|refine jd ?_|refine je ?_|refine jf ?_|refine jg ?_|refine jh ?_|refine ji ?_|refine jj ?_|refine jk ?_|refine jl ?_|refine jm ?_|refine jn ?_|refine jo ?_|refine jp ?_|refine jq ?_|refine jr ?_|refine js ?_|refine jt ?_|refine ju ?_|refine jv ?_|refine jw ?_|refine jx ?_|refine jy ?_|refine jz ?_|refine jA ?_|refine jB ?_|refine jC ?_|refine jD ?_|refine jE ?_|refine jF ?_|refine jG ?_|refine jH ?_|refine jI ?_|refine jJ ?_|refine jK ?_|refine jL ?_|refine jM (by assumption) ?_|refine jN (by assumption) rfl ?_|refine jO (by assumption) ?_|refine jP (by assumption) rfl ?_|refine jQ ?_|refine jR ?_|refine jS ?_|refine jT ?_|refine jU (by assumption) rfl ?_|refine jG ?_ (by decide)|refine jH ?_ (by decide)|refine jI ?_ (by decide)|refine jJ ?_ (by decide)|refine jC ?_ (by decide)|refine jy ?_ (by decide)))
      refine M.idxL_i (l := aL) hr6 (by decide) (x := ⟨9, 5, 0⟩) rfl (fun bb oo hc => ?_)
      refine M.gd_tt ?_
      refine M.loadL_i hc ?_
      refine M.gd_tt ?_
      refine M.call_i (better_ret _ _ w6) ?_; rintro _ w7 ⟨rfl, k7⟩
      have c2 : betB ⟨9, 5, 0⟩ ⟨9, 5, 0⟩ = false := by decide
      rw [c2]
      (repeat (first|refine ja ?_|refine jb ?_|refine jc ?_|refine jd ?_|refine je ?_|refine jf ?_|refine jg ?_|refine jh ?_|refine ji ?_|refine jj ?_|refine jk ?_|refine jl ?_|refine jm ?_|refine jn ?_|refine jo ?_|refine jp ?_|refine jq ?_|refine jr ?_|refine js ?_|refine jt ?_|refine ju ?_|refine jv ?_|refine jw ?_|refine jx ?_|refine jy ?_|refine jz ?_|refine jA ?_|refine jB ?_|refine jC ?_|refine jD ?_|refine jE ?_|refine jF ?_|refine jG ?_|refine jH ?_|refine jI ?_|refine jJ ?_|refine jK ?_|refine jL ?_|refine jM (by assumption) ?_|refine jN (by assumption) rfl ?_|refine jO (by assumption) ?_|refine jP (by assumption) rfl ?_|refine jQ ?_|refine jR ?_|refine jS ?_|refine jT ?_|refine jU (by assumption) rfl ?_|refine jG ?_ (by decide)|refine jH ?_ (by decide)|refine jI ?_ (by decide)|refine jJ ?_ (by decide)|refine jC ?_ (by decide)|refine jy ?_ (by decide)))
      refine M.pure_i (.agg #[vi 0, vi 0, vi 2]) (fun _ => by kernel_rfl) ?_
      refine M.gd_tt ?_
      refine M.pure_i (.agg #[vi 0, vi 0, vi 1]) (fun _ => by kernel_rfl) ?_
      refine M.gd_tt ?_
      refine M.call_i (better_ret ⟨0, 0, 2⟩ ⟨0, 0, 1⟩ w7) ?_; rintro _ w8 ⟨rfl, k8⟩
      have c3 : betB ⟨0, 0, 2⟩ ⟨0, 0, 1⟩ = true := by decide
      rw [c3]
      (repeat (first|refine ja ?_|refine jb ?_|refine jc ?_|refine jd ?_|refine je ?_|refine jf ?_|refine jg ?_|refine jh ?_|refine ji ?_|refine jj ?_|refine jk ?_|refine jl ?_|refine jm ?_|refine jn ?_|refine jo ?_|refine jp ?_|refine jq ?_|refine jr ?_|refine js ?_|refine jt ?_|refine ju ?_|refine jv ?_|refine jw ?_|refine jx ?_|refine jy ?_|refine jz ?_|refine jA ?_|refine jB ?_|refine jC ?_|refine jD ?_|refine jE ?_|refine jF ?_|refine jG ?_|refine jH ?_|refine jI ?_|refine jJ ?_|refine jK ?_|refine jL ?_|refine jM (by assumption) ?_|refine jN (by assumption) rfl ?_|refine jO (by assumption) ?_|refine jP (by assumption) rfl ?_|refine jQ ?_|refine jR ?_|refine jS ?_|refine jT ?_|refine jU (by assumption) rfl ?_|refine jG ?_ (by decide)|refine jH ?_ (by decide)|refine jI ?_ (by decide)|refine jJ ?_ (by decide)|refine jC ?_ (by decide)|refine jy ?_ (by decide)))
      refine M.call_i (keep_ret (LN.nil Lr.cells w8 No) (by decide)) ?_; rintro rv2 w9 ⟨⟨B9, c9, rfl, _⟩, _, k9⟩
      have c4 : (keptB []).length = 0 := by kernel_rfl
      rw [c4]
      (repeat (first|refine ja ?_|refine jb ?_|refine jc ?_|refine jd ?_|refine je ?_|refine jf ?_|refine jg ?_|refine jh ?_|refine ji ?_|refine jj ?_|refine jk ?_|refine jl ?_|refine jm ?_|refine jn ?_|refine jo ?_|refine jp ?_|refine jq ?_|refine jr ?_|refine js ?_|refine jt ?_|refine ju ?_|refine jv ?_|refine jw ?_|refine jx ?_|refine jy ?_|refine jz ?_|refine jA ?_|refine jB ?_|refine jC ?_|refine jD ?_|refine jE ?_|refine jF ?_|refine jG ?_|refine jH ?_|refine jI ?_|refine jJ ?_|refine jK ?_|refine jL ?_|refine jM (by assumption) ?_|refine jN (by assumption) rfl ?_|refine jO (by assumption) ?_|refine jP (by assumption) rfl ?_|refine jQ ?_|refine jR ?_|refine jS ?_|refine jT ?_|refine jU (by assumption) rfl ?_|refine jG ?_ (by decide)|refine jH ?_ (by decide)|refine jI ?_ (by decide)|refine jJ ?_ (by decide)|refine jC ?_ (by decide)|refine jy ?_ (by decide)))
      exact hK _ _ ⟨rfl, ((((k1d.trans k25 (fun _ _ h => h)).trans k6 (fun _ _ h => h)).trans k7 (fun _ _ h => h)).trans k8 (fun _ _ h => h)).trans k9 (fun _ _ h => h)⟩
    · refine M.buildSlice_i (([false, true, true] : List Bool).map vb) (by kernel_rfl) (fun w3 b3 k3 s3 => ?_)
      refine M.call_i (keep_ret (hl2.keep k3 (fun _ _ _ h => h)) (by decide)) ?_; rintro rv w4 ⟨hrv, _, k4⟩
      refine M.call_i (bools_ret hrv (D' := fun _ => True) (ys := [false, true, true]) ⟨_, _, rfl, Row.of_blk' (b3.keep k4 (fun h => h)) trivial, Nat.le_refl _⟩ (by rw [ck]; show 3 ≤ 100000000000; omega)) ?_; rintro _ w5 ⟨rfl, k5⟩
      rw [decide_eq_true ck]
      have k25 := (k3.trans k4 (fun _ _ h => h)).trans k5 (fun _ _ h => h)
      have hr5 := hr2.keep k25 (fun _ _ _ h => h)
      (repeat (first|refine ja ?_|refine jb ?_|refine jc ?_|refine jd ?_|refine je ?_|refine jf ?_|refine jg ?_|refine jh ?_|refine ji ?_|refine jj ?_|refine jk ?_|refine jl ?_|refine jm ?_|refine jn ?_|refine jo ?_|refine jp ?_|refine jq ?_|refine jr ?_|refine js ?_|refine jt ?_|refine ju ?_|refine jv ?_|refine jw ?_|refine jx ?_|refine jy ?_|refine jz ?_|refine jA ?_|refine jB ?_|refine jC ?_|refine jD ?_|refine jE ?_|refine jF ?_|refine jG ?_|refine jH ?_|refine jI ?_|refine jJ ?_|refine jK ?_|refine jL ?_|refine jM (by assumption) ?_|refine jN (by assumption) rfl ?_|refine jO (by assumption) ?_|refine jP (by assumption) rfl ?_|refine jQ ?_|refine jR ?_|refine jS ?_|refine jT ?_|refine jU (by assumption) rfl ?_|refine jG ?_ (by decide)|refine jH ?_ (by decide)|refine jI ?_ (by decide)|refine jJ ?_ (by decide)|refine jC ?_ (by decide)|refine jy ?_ (by decide)))
      refine M.idxL_i (l := aL) hr5 (by decide) (x := ⟨9, 3, 0⟩) rfl (fun bb oo hc => ?_)
      refine M.gd_tt ?_
      refine M.loadL_i hc ?_
      (repeat (first|refine ja ?_|refine jb ?_|refine jc ?_|refine jd ?_|refine je ?_|refine jf ?_|refine jg ?_|refine jh ?_|refine ji ?_|refine jj ?_|refine jk ?_|refine jl ?_|refine jm ?_|refine jn ?_|refine jo ?_|refine jp ?_|refine jq ?_|refine jr ?_|refine js ?_|refine jt ?_|refine ju ?_|refine jv ?_|refine jw ?_|refine jx ?_|refine jy ?_|refine jz ?_|refine jA ?_|refine jB ?_|refine jC ?_|refine jD ?_|refine jE ?_|refine jF ?_|refine jG ?_|refine jH ?_|refine jI ?_|refine jJ ?_|refine jK ?_|refine jL ?_|refine jM (by assumption) ?_|refine jN (by assumption) rfl ?_|refine jO (by assumption) ?_|refine jP (by assumption) rfl ?_|refine jQ ?_|refine jR ?_|refine jS ?_|refine jT ?_|refine jU (by assumption) rfl ?_|refine jG ?_ (by decide)|refine jH ?_ (by decide)|refine jI ?_ (by decide)|refine jJ ?_ (by decide)|refine jC ?_ (by decide)|refine jy ?_ (by decide)))
      refine M.idxL_i (l := aL) hr5 (by decide) (x := ⟨9, 5, 0⟩) rfl (fun bb oo hc => ?_)
      refine M.gd_tt ?_
      refine M.loadL_i hc ?_
      refine M.gd_tt ?_
      refine M.call_i (better_ret _ _ w5) ?_; rintro _ w6 ⟨rfl, k6⟩
      have c1 : betB ⟨9, 3, 0⟩ ⟨9, 5, 0⟩ = true := by decide
      rw [c1]
      have hr6 := hr5.keep k6 (fun _ _ _ h => h)
      (repeat (first|refine ja ?_|refine jb ?_|refine jc ?_|refine jd ?_|refine je ?_|refine jf ?_|refine jg ?_|refine jh ?_|refine ji ?_|refine jj ?_|refine jk ?_|refine jl ?_|refine jm ?_|refine jn ?_|refine jo ?_|refine jp ?_|refine jq ?_|refine jr ?_|refine js ?_|refine jt ?_|refine ju ?_|refine jv ?_|refine jw ?_|refine jx ?_|refine jy ?_|refine jz ?_|refine jA ?_|refine jB ?_|refine jC ?_|refine jD ?_|refine jE ?_|refine jF ?_|refine jG ?_|refine jH ?_|refine jI ?_|refine jJ ?_|refine jK ?_|refine jL ?_|refine jM (by assumption) ?_|refine jN (by assumption) rfl ?_|refine jO (by assumption) ?_|refine jP (by assumption) rfl ?_|refine jQ ?_|refine jR ?_|refine jS ?_|refine jT ?_|refine jU (by assumption) rfl ?_|refine jG ?_ (by decide)|refine jH ?_ (by decide)|refine jI ?_ (by decide)|refine jJ ?_ (by decide)|refine jC ?_ (by decide)|refine jy ?_ (by decide)))
      refine M.idxL_i (l := aL) hr6 (by decide) (x := ⟨9, 5, 0⟩) rfl (fun bb oo hc => ?_)
      refine M.gd_tt ?_
      refine M.loadL_i hc ?_
      (repeat (first|refine ja ?_|refine jb ?_|refine jc ?_|refine jd ?_|refine je ?_|refine jf ?_|refine jg ?_|refine jh ?_|refine ji ?_|refine jj ?_|refine jk ?_|refine jl ?_|refine jm ?_|refine jn ?_|refine jo ?_|refine jp ?_|refine jq ?_|refine jr ?_|refine js ?_|refine jt ?_|refine ju ?_|refine jv ?_|refine jw ?_|refine jx ?_|refine jy ?_|refine jz ?_|refine jA ?_|refine jB ?_|refine jC ?_|refine jD ?_|refine jE ?_|refine jF ?_|refine jG ?_|refine jH ?_|refine jI ?_|refine jJ ?_|refine jK ?_|refine jL ?_|refine jM (by assumption) ?_|refine jN (by assumption) rfl ?_|refine jO (by assumption) ?_|refine jP (by assumption) rfl ?_|refine jQ ?_|refine jR ?_|refine jS ?_|refine jT ?_|refine jU (by assumption) rfl ?_|refine jG ?_ (by decide)|refine jH ?_ (by decide)|refine jI ?_ (by decide)|refine jJ ?_ (by decide)|refine jC ?_ (by decide)|refine jy ?_ (by decide)))
      refine M.idxL_i (l := aL) hr6 (by decide) (x := ⟨9, 5, 0⟩) rfl (fun bb oo hc => ?_)
      refine M.gd_tt ?_
      refine M.loadL_i hc ?_
      refine M.gd_tt ?_
      refine M.call_i (better_ret _ _ w6) ?_; rintro _ w7 ⟨rfl, k7⟩
      have c2 : betB ⟨9, 5, 0⟩ ⟨9, 5, 0⟩ = false := by decide
      rw [c2]
      (repeat (first|refine ja ?_|refine jb ?_|refine jc ?_|refine jd ?_|refine je ?_|refine jf ?_|refine jg ?_|refine jh ?_|refine ji ?_|refine jj ?_|refine jk ?_|refine jl ?_|refine jm ?_|refine jn ?_|refine jo ?_|refine jp ?_|refine jq ?_|refine jr ?_|refine js ?_|refine jt ?_|refine ju ?_|refine jv ?_|refine jw ?_|refine jx ?_|refine jy ?_|refine jz ?_|refine jA ?_|refine jB ?_|refine jC ?_|refine jD ?_|refine jE ?_|refine jF ?_|refine jG ?_|refine jH ?_|refine jI ?_|refine jJ ?_|refine jK ?_|refine jL ?_|refine jM (by assumption) ?_|refine jN (by assumption) rfl ?_|refine jO (by assumption) ?_|refine jP (by assumption) rfl ?_|refine jQ ?_|refine jR ?_|refine jS ?_|refine jT ?_|refine jU (by assumption) rfl ?_|refine jG ?_ (by decide)|refine jH ?_ (by decide)|refine jI ?_ (by decide)|refine jJ ?_ (by decide)|refine jC ?_ (by decide)|refine jy ?_ (by decide)))
      refine M.pure_i (.agg #[vi 0, vi 0, vi 2]) (fun _ => by kernel_rfl) ?_
      refine M.gd_tt ?_
      refine M.pure_i (.agg #[vi 0, vi 0, vi 1]) (fun _ => by kernel_rfl) ?_
      refine M.gd_tt ?_
      refine M.call_i (better_ret ⟨0, 0, 2⟩ ⟨0, 0, 1⟩ w7) ?_; rintro _ w8 ⟨rfl, k8⟩
      have c3 : betB ⟨0, 0, 2⟩ ⟨0, 0, 1⟩ = true := by decide
      rw [c3]
      (repeat (first|refine ja ?_|refine jb ?_|refine jc ?_|refine jd ?_|refine je ?_|refine jf ?_|refine jg ?_|refine jh ?_|refine ji ?_|refine jj ?_|refine jk ?_|refine jl ?_|refine jm ?_|refine jn ?_|refine jo ?_|refine jp ?_|refine jq ?_|refine jr ?_|refine js ?_|refine jt ?_|refine ju ?_|refine jv ?_|refine jw ?_|refine jx ?_|refine jy ?_|refine jz ?_|refine jA ?_|refine jB ?_|refine jC ?_|refine jD ?_|refine jE ?_|refine jF ?_|refine jG ?_|refine jH ?_|refine jI ?_|refine jJ ?_|refine jK ?_|refine jL ?_|refine jM (by assumption) ?_|refine jN (by assumption) rfl ?_|refine jO (by assumption) ?_|refine jP (by assumption) rfl ?_|refine jQ ?_|refine jR ?_|refine jS ?_|refine jT ?_|refine jU (by assumption) rfl ?_|refine jG ?_ (by decide)|refine jH ?_ (by decide)|refine jI ?_ (by decide)|refine jJ ?_ (by decide)|refine jC ?_ (by decide)|refine jy ?_ (by decide)))
      refine M.call_i (keep_ret (LN.nil Lr.cells w8 No) (by decide)) ?_; rintro rv2 w9 ⟨⟨B9, c9, rfl, _⟩, _, k9⟩
      have c4 : (keptB []).length = 0 := by kernel_rfl
      rw [c4]
      (repeat (first|refine ja ?_|refine jb ?_|refine jc ?_|refine jd ?_|refine je ?_|refine jf ?_|refine jg ?_|refine jh ?_|refine ji ?_|refine jj ?_|refine jk ?_|refine jl ?_|refine jm ?_|refine jn ?_|refine jo ?_|refine jp ?_|refine jq ?_|refine jr ?_|refine js ?_|refine jt ?_|refine ju ?_|refine jv ?_|refine jw ?_|refine jx ?_|refine jy ?_|refine jz ?_|refine jA ?_|refine jB ?_|refine jC ?_|refine jD ?_|refine jE ?_|refine jF ?_|refine jG ?_|refine jH ?_|refine jI ?_|refine jJ ?_|refine jK ?_|refine jL ?_|refine jM (by assumption) ?_|refine jN (by assumption) rfl ?_|refine jO (by assumption) ?_|refine jP (by assumption) rfl ?_|refine jQ ?_|refine jR ?_|refine jS ?_|refine jT ?_|refine jU (by assumption) rfl ?_|refine jG ?_ (by decide)|refine jH ?_ (by decide)|refine jI ?_ (by decide)|refine jJ ?_ (by decide)|refine jC ?_ (by decide)|refine jy ?_ (by decide)))
      exact hK _ _ ⟨rfl, ((((k1d.trans k25 (fun _ _ h => h)).trans k6 (fun _ _ h => h)).trans k7 (fun _ _ h => h)).trans k8 (fun _ _ h => h)).trans k9 (fun _ _ h => h)⟩
end Go.Proofs.Ythcfmfkigioaeaa
