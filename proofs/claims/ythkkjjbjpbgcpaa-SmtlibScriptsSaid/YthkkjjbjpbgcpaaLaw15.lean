import Derived.Test.YthkkjjbjpbgcpaaRef15d
namespace Go.Proofs.Ythkkjjbjpbgcpaa
open Go.Mw Go.Maps Go.MapKept
set_option linter.unusedVariables false
set_option linter.unusedSimpArgs false
set_option maxRecDepth 100000
attribute [local irreducible] M.val M.unit M.next M.pick M.new M.nilCheck M.load1 M.loadA M.store M.fieldAddr M.indexSl M.indexArr M.slice M.makeSlice M.buildSlice M.len M.lenS M.cap M.append M.extract M.conv M.not M.neg M.bin M.shift M.eqB M.eqNil M.scat M.call M.callv M.gd M.share M.cond M.loop M.draw pureW readW Ret
/-! breakwater/breakwaterlaw15.made: function 17 -/
def sh17 (x0 x1 : Value) (R : Kt) (w : World) : Prop :=
  M.new 50 (Value.cells x1) (fun t3 w =>
  M.fieldAddr 0 t3 (fun t6 w =>
  M.load1 t6 (fun t7 w =>
  M.bin .eql t7 (Value.int IntKind.i64 0) (fun t9 w =>
  M.cond t9
  (M.fieldAddr 1 t3 (fun t11 w =>
  M.load1 t11 (fun t12 w =>
  M.fieldAddr 5 t3 (fun t13 w =>
  M.load1 t13 (fun t14 w =>
  M.call Try.prog 13 #[x0, t12, t14] (fun t15 w =>
  M.extract 0 t15 (fun t16 w =>
  M.extract 1 t15 (fun t17 w =>
  R (.tuple #[t16, t17]) w) w) w) w) w) w) w) w)
  (M.bin .eql t7 (Value.int IntKind.i64 1) (fun t19 w =>
  M.cond t19
  (M.fieldAddr 1 t3 (fun t21 w =>
  M.load1 t21 (fun t22 w =>
  M.fieldAddr 2 t3 (fun t23 w =>
  M.load1 t23 (fun t24 w =>
  M.call Try.prog 12 #[x0, t22, t24] (fun t25 w =>
  M.extract 0 t25 (fun t26 w =>
  M.extract 1 t25 (fun t27 w =>
  R (.tuple #[t26, t27]) w) w) w) w) w) w) w) w)
  (M.bin .eql t7 (Value.int IntKind.i64 2) (fun t29 w =>
  M.cond t29
  (M.fieldAddr 2 t3 (fun t31 w =>
  M.load1 t31 (fun t32 w =>
  M.fieldAddr 3 t3 (fun t33 w =>
  M.load1 t33 (fun t34 w =>
  M.call Try.prog 40 #[x0, t32, t34] (fun t35 w =>
  M.extract 0 t35 (fun t36 w =>
  M.extract 1 t35 (fun t37 w =>
  R (.tuple #[t36, t37]) w) w) w) w) w) w) w) w)
  (M.bin .eql t7 (Value.int IntKind.i64 3) (fun t39 w =>
  M.cond t39
  (M.fieldAddr 2 t3 (fun t41 w =>
  M.load1 t41 (fun t42 w =>
  M.fieldAddr 3 t3 (fun t43 w =>
  M.load1 t43 (fun t44 w =>
  M.fieldAddr 4 t3 (fun t45 w =>
  M.load1 t45 (fun t46 w =>
  M.call Try.prog 14 #[x0, t42, t44, t46] (fun t47 w =>
  M.extract 0 t47 (fun t48 w =>
  M.extract 1 t47 (fun t49 w =>
  R (.tuple #[t48, t49]) w) w) w) w) w) w) w) w) w) w)
  (M.bin .eql t7 (Value.int IntKind.i64 4) (fun t51 w =>
  M.cond t51
  (M.fieldAddr 2 t3 (fun t53 w =>
  M.load1 t53 (fun t54 w =>
  M.fieldAddr 3 t3 (fun t55 w =>
  M.load1 t55 (fun t56 w =>
  M.fieldAddr 4 t3 (fun t57 w =>
  M.load1 t57 (fun t58 w =>
  M.call Try.prog 41 #[x0, t54, t56, t58] (fun t59 w =>
  M.extract 0 t59 (fun t60 w =>
  M.extract 1 t59 (fun t61 w =>
  R (.tuple #[t60, t61]) w) w) w) w) w) w) w) w) w) w)
  (M.bin .eql t7 (Value.int IntKind.i64 5) (fun t63 w =>
  M.cond t63
  (M.fieldAddr 2 t3 (fun t65 w =>
  M.load1 t65 (fun t66 w =>
  M.fieldAddr 3 t3 (fun t67 w =>
  M.load1 t67 (fun t68 w =>
  M.fieldAddr 1 t3 (fun t69 w =>
  M.load1 t69 (fun t70 w =>
  M.call Try.prog 42 #[x0, t66, t68, t70] (fun t71 w =>
  M.extract 0 t71 (fun t72 w =>
  M.extract 1 t71 (fun t73 w =>
  R (.tuple #[t72, t73]) w) w) w) w) w) w) w) w) w) w)
  (M.bin .eql t7 (Value.int IntKind.i64 6) (fun t75 w =>
  M.cond t75
  (M.fieldAddr 2 t3 (fun t77 w =>
  M.load1 t77 (fun t78 w =>
  M.fieldAddr 3 t3 (fun t79 w =>
  M.load1 t79 (fun t80 w =>
  M.call Try.prog 43 #[x0, t78, t80] (fun t81 w =>
  M.extract 0 t81 (fun t82 w =>
  M.extract 1 t81 (fun t83 w =>
  R (.tuple #[t82, t83]) w) w) w) w) w) w) w) w)
  (M.fieldAddr 2 t3 (fun t85 w =>
  M.load1 t85 (fun t86 w =>
  M.fieldAddr 1 t3 (fun t87 w =>
  M.load1 t87 (fun t88 w =>
  M.fieldAddr 3 t3 (fun t89 w =>
  M.load1 t89 (fun t90 w =>
  M.bin .rem t90 (Value.int IntKind.i64 2) (fun t91 w =>
  M.bin .neq t91 (Value.int IntKind.i64 0) (fun t92 w =>
  M.call Try.prog 15 #[x0, t86, t88, t92] (fun t93 w =>
  M.extract 0 t93 (fun t94 w =>
  M.extract 1 t93 (fun t95 w =>
  R (.tuple #[t94, t95]) w) w) w) w) w) w) w) w) w) w) w) w)) w)) w)) w)) w)) w)) w)) w) w) w) w
theorem ok17 (x0 x1 : Value) (R : Kt) (w : World) (h : sh17 x0 x1 R w) : Ret Try.prog 17 #[x0, x1] w R :=
  ret_mk <| calls_of_comp mixed (c := Try.f17.body.getD .skip) (args := [x0, x1]) (rs := [(ResultVar.tmp 4), (ResultVar.tmp 5)]) (Ann.seq Ann.text (Ann.seq (Ann.seq Ann.text (Ann.block (Ann.seq Ann.text (Ann.cond (Ann.seq Ann.text Ann.leaf) (Ann.seq Ann.text (Ann.cond (Ann.seq Ann.text Ann.leaf) (Ann.seq Ann.text (Ann.cond (Ann.seq Ann.text Ann.leaf) (Ann.seq Ann.text (Ann.cond (Ann.seq Ann.text Ann.leaf) (Ann.seq Ann.text (Ann.cond (Ann.seq Ann.text Ann.leaf) (Ann.seq Ann.text (Ann.cond (Ann.seq Ann.text Ann.leaf) (Ann.seq Ann.text (Ann.cond (Ann.seq Ann.text Ann.leaf) Ann.leaf)))))))))))))))) (Ann.seq Ann.text Ann.leaf)))
    Try.func17 (by kernel_rfl) (by kernel_rfl)
    (Eq.mp (by kernel_rfl) h)
/-! breakwater/breakwaterlaw15.meant: function 18 -/
def sh18 (x0 x1 : Value) (R : Kt) (w : World) : Prop :=
  M.new 27 (Value.cells x0) (fun t2 w =>
  M.new 50 (Value.cells x1) (fun t3 w =>
  M.new 27 #[.slice none 0 0, .int .i64 0] (fun t4 w =>
  M.fieldAddr 0 t3 (fun t7 w =>
  M.load1 t7 (fun t8 w =>
  M.bin .eql t8 (Value.int IntKind.i64 0) (fun t10 w =>
  M.cond t10
  (M.loadA 2 t2 (fun t11 w =>
  M.fieldAddr 1 t3 (fun t12 w =>
  M.load1 t12 (fun t13 w =>
  M.fieldAddr 5 t3 (fun t14 w =>
  M.load1 t14 (fun t15 w =>
  M.call Try.prog 44 #[t11, t13, t15] (fun t16 w =>
  M.extract 0 t16 (fun t17 w =>
  M.extract 1 t16 (fun t18 w =>
  M.extract 2 t16 (fun t19 w =>
  M.store 2 t4 t17 (fun _ w =>
  M.loadA 2 t4 (fun r0 w => R (.tuple #[r0, t18, t19]) w) w) w) w) w) w) w) w) w) w) w) w)
  (M.bin .eql t8 (Value.int IntKind.i64 1) (fun t21 w =>
  M.cond t21
  (M.loadA 2 t2 (fun t22 w =>
  M.fieldAddr 1 t3 (fun t23 w =>
  M.load1 t23 (fun t24 w =>
  M.fieldAddr 2 t3 (fun t25 w =>
  M.load1 t25 (fun t26 w =>
  M.call Try.prog 45 #[t22, t24, t26] (fun t27 w =>
  M.extract 0 t27 (fun t28 w =>
  M.extract 1 t27 (fun t29 w =>
  M.extract 2 t27 (fun t30 w =>
  M.store 2 t4 t28 (fun _ w =>
  M.loadA 2 t4 (fun r0 w => R (.tuple #[r0, t29, t30]) w) w) w) w) w) w) w) w) w) w) w) w)
  (M.bin .eql t8 (Value.int IntKind.i64 2) (fun t32 w =>
  M.cond t32
  (M.loadA 2 t2 (fun t33 w =>
  M.fieldAddr 2 t3 (fun t34 w =>
  M.load1 t34 (fun t35 w =>
  M.fieldAddr 3 t3 (fun t36 w =>
  M.load1 t36 (fun t37 w =>
  M.call Try.prog 46 #[t33, t35, t37] (fun t38 w =>
  M.extract 0 t38 (fun t39 w =>
  M.extract 1 t38 (fun t40 w =>
  M.extract 2 t38 (fun t41 w =>
  M.store 2 t4 t39 (fun _ w =>
  M.loadA 2 t4 (fun r0 w => R (.tuple #[r0, t40, t41]) w) w) w) w) w) w) w) w) w) w) w) w)
  (M.bin .eql t8 (Value.int IntKind.i64 3) (fun t43 w =>
  M.cond t43
  (M.loadA 2 t2 (fun t44 w =>
  M.fieldAddr 2 t3 (fun t45 w =>
  M.load1 t45 (fun t46 w =>
  M.fieldAddr 3 t3 (fun t47 w =>
  M.load1 t47 (fun t48 w =>
  M.fieldAddr 4 t3 (fun t49 w =>
  M.load1 t49 (fun t50 w =>
  M.call Try.prog 47 #[t44, t46, t48, t50] (fun t51 w =>
  M.extract 0 t51 (fun t52 w =>
  M.extract 1 t51 (fun t53 w =>
  M.extract 2 t51 (fun t54 w =>
  M.store 2 t4 t52 (fun _ w =>
  M.loadA 2 t4 (fun r0 w => R (.tuple #[r0, t53, t54]) w) w) w) w) w) w) w) w) w) w) w) w) w) w)
  (M.bin .eql t8 (Value.int IntKind.i64 4) (fun t56 w =>
  M.cond t56
  (M.loadA 2 t2 (fun t57 w =>
  M.fieldAddr 2 t3 (fun t58 w =>
  M.load1 t58 (fun t59 w =>
  M.fieldAddr 3 t3 (fun t60 w =>
  M.load1 t60 (fun t61 w =>
  M.fieldAddr 4 t3 (fun t62 w =>
  M.load1 t62 (fun t63 w =>
  M.call Try.prog 48 #[t57, t59, t61, t63] (fun t64 w =>
  M.extract 0 t64 (fun t65 w =>
  M.extract 1 t64 (fun t66 w =>
  M.extract 2 t64 (fun t67 w =>
  M.store 2 t4 t65 (fun _ w =>
  M.loadA 2 t4 (fun r0 w => R (.tuple #[r0, t66, t67]) w) w) w) w) w) w) w) w) w) w) w) w) w) w)
  (M.bin .eql t8 (Value.int IntKind.i64 5) (fun t69 w =>
  M.cond t69
  (M.loadA 2 t2 (fun t70 w =>
  M.fieldAddr 2 t3 (fun t71 w =>
  M.load1 t71 (fun t72 w =>
  M.fieldAddr 3 t3 (fun t73 w =>
  M.load1 t73 (fun t74 w =>
  M.fieldAddr 1 t3 (fun t75 w =>
  M.load1 t75 (fun t76 w =>
  M.call Try.prog 49 #[t70, t72, t74, t76] (fun t77 w =>
  M.extract 0 t77 (fun t78 w =>
  M.extract 1 t77 (fun t79 w =>
  M.extract 2 t77 (fun t80 w =>
  M.store 2 t4 t78 (fun _ w =>
  M.loadA 2 t4 (fun r0 w => R (.tuple #[r0, t79, t80]) w) w) w) w) w) w) w) w) w) w) w) w) w) w)
  (M.bin .eql t8 (Value.int IntKind.i64 6) (fun t82 w =>
  M.cond t82
  (M.loadA 2 t2 (fun t83 w =>
  M.fieldAddr 2 t3 (fun t84 w =>
  M.load1 t84 (fun t85 w =>
  M.fieldAddr 3 t3 (fun t86 w =>
  M.load1 t86 (fun t87 w =>
  M.call Try.prog 50 #[t83, t85, t87] (fun t88 w =>
  M.extract 0 t88 (fun t89 w =>
  M.extract 1 t88 (fun t90 w =>
  M.extract 2 t88 (fun t91 w =>
  M.store 2 t4 t89 (fun _ w =>
  M.loadA 2 t4 (fun r0 w => R (.tuple #[r0, t90, t91]) w) w) w) w) w) w) w) w) w) w) w) w)
  (M.loadA 2 t2 (fun t92 w =>
  M.fieldAddr 2 t3 (fun t93 w =>
  M.load1 t93 (fun t94 w =>
  M.fieldAddr 1 t3 (fun t95 w =>
  M.load1 t95 (fun t96 w =>
  M.fieldAddr 3 t3 (fun t97 w =>
  M.load1 t97 (fun t98 w =>
  M.bin .rem t98 (Value.int IntKind.i64 2) (fun t99 w =>
  M.bin .neq t99 (Value.int IntKind.i64 0) (fun t100 w =>
  M.call Try.prog 51 #[t92, t94, t96, t100] (fun t101 w =>
  M.extract 0 t101 (fun t102 w =>
  M.extract 1 t101 (fun t103 w =>
  M.extract 2 t101 (fun t104 w =>
  M.store 2 t4 t102 (fun _ w =>
  M.loadA 2 t4 (fun r0 w => R (.tuple #[r0, t103, t104]) w) w) w) w) w) w) w) w) w) w) w) w) w) w) w) w)) w)) w)) w)) w)) w)) w)) w) w) w) w) w) w
theorem ok18 (x0 x1 : Value) (R : Kt) (w : World) (h : sh18 x0 x1 R w) : Ret Try.prog 18 #[x0, x1] w R :=
  ret_mk <| calls_of_comp mixed (c := Try.f18.body.getD .skip) (args := [x0, x1]) (rs := [(ResultVar.cell 4 27), (ResultVar.tmp 5), (ResultVar.tmp 6)]) (Ann.seq Ann.text (Ann.seq (Ann.seq Ann.text (Ann.block (Ann.seq Ann.text (Ann.cond (Ann.seq Ann.text Ann.leaf) (Ann.seq Ann.text (Ann.cond (Ann.seq Ann.text Ann.leaf) (Ann.seq Ann.text (Ann.cond (Ann.seq Ann.text Ann.leaf) (Ann.seq Ann.text (Ann.cond (Ann.seq Ann.text Ann.leaf) (Ann.seq Ann.text (Ann.cond (Ann.seq Ann.text Ann.leaf) (Ann.seq Ann.text (Ann.cond (Ann.seq Ann.text Ann.leaf) (Ann.seq Ann.text (Ann.cond (Ann.seq Ann.text Ann.leaf) Ann.leaf)))))))))))))))) (Ann.seq Ann.text Ann.leaf)))
    Try.func18 (by kernel_rfl) (by kernel_rfl)
    (Eq.mp (by kernel_rfl) h)
/-! breakwater/breakwaterlaw15.Build: function 6 -/
def sh6 (x0 x1 : Value) (R : Kt) (w : World) : Prop :=
  M.new 27 #[.slice none 0 0, .int .i64 0] (fun t5 w =>
  M.call Try.prog 11 #[x0] (fun t15 w =>
  M.call Try.prog 16 #[x0] (fun t17 w =>
  M.new 27 #[.slice none 0 0, .int .i64 0] (fun t7 w =>
  M.store 2 t7 t17 (fun _ w =>
  M.eqNil 0 false t15 (fun t19 w =>
  M.cond t19
  (M.draw (fun w =>
  M.loadA 2 t7 (fun t20 w =>
  M.store 2 t5 t20 (fun _ w =>
  M.loadA 2 t5 (fun r1 w => R (.tuple #[(Value.pointer none), r1]) w) w) w) w) w)
  (M.loop [(Value.int IntKind.i64 0)] (fun s1 K1 w => ∀ _ : List Value,
  M.len x1 (fun t23 w =>
  M.bin .lss (s1.getD 0 undef) t23 (fun t24 w =>
  M.cond t24
  (M.indexSl 6 x1 (s1.getD 0 undef) (fun t31 w =>
  M.loadA 6 t31 (fun t32 w =>
  M.call Try.prog 17 #[t15, t32] (fun t33 w =>
  M.extract 0 t33 (fun t34 w =>
  M.extract 1 t33 (fun t35 w =>
  M.share (fun K2 w =>
  M.draw (fun w =>
  M.loadA 2 t7 (fun t37 w =>
  M.indexSl 6 x1 (s1.getD 0 undef) (fun t40 w =>
  M.loadA 6 t40 (fun t41 w =>
  ((M.call Try.prog 18 #[t37, t41] (fun t42 w =>
  M.extract 0 t42 (fun t43 w =>
  M.extract 1 t42 (fun t44 w =>
  M.extract 2 t42 (fun t45 w =>
  M.new 27 #[.slice none 0 0, .int .i64 0] (fun t11 w =>
  M.store 2 t11 t43 (fun _ w =>
  K2 [t11, t44, t45] w) w) w) w) w) w) w) ∧
   (M.new 27 #[.slice none 0 0, .int .i64 0] (fun t11_2 w =>
  ((M.loadA 6 t40 (fun v' _ => v' = t41) w) ∧ ((M.loadA 2 t7 (fun v' _ => v' = t37) w) ∧ M.call Try.prog 18 #[t37, t41] (fun t42_2 w =>
  M.extract 0 t42_2 (fun t43_2 w =>
  M.extract 1 t42_2 (fun t44_2 w =>
  M.extract 2 t42_2 (fun t45_2 w =>
  M.store 2 t11_2 t43_2 (fun _ w =>
  K2 [t11_2, t44_2, t45_2] w) w) w) w) w) w))) w))) w) w) w) w) (fun s2 w => ∀ _ : List Value,
  M.loadA 2 (s2.getD 0 undef) (fun t46 w =>
  M.store 2 t7 t46 (fun _ w =>
  M.draw (fun w =>
  M.bin .neq t34 (s2.getD 1 undef) (fun t49 w =>
  M.gd t49 false (fun k w => k t35 w) (fun t51 w =>
  M.gd t49 false (fun k w => k (s2.getD 2 undef) w) (fun t52 w =>
  M.gd t49 false (fun k w => M.bin .neq t51 t52 k w) (fun t53 w =>
  M.pick t49 (Value.bool true) t53 (fun t54 w =>
  M.gd t54 false (fun k w => k t15 w) (fun t56 w =>
  M.gd t54 false (fun k w => M.fieldAddr 0 t7 k w) (fun t58 w =>
  M.gd t54 false (fun k w => M.load1 t58 k w) (fun t59 w =>
  M.gd t54 false (fun k w => M.len t59 k w) (fun t60 w =>
  M.gd t54 false (fun k w => M.call Try.prog 19 #[t56] k w) (fun t57 w =>
  ((M.gd t54 false (fun k w => M.load1 t58 k w) (fun v' _ => v' = t59) w) ∧ M.gd t54 false (fun k w => M.bin .neq t57 t60 k w) (fun t61 w =>
  M.pick t54 (Value.bool true) t61 (fun t62 w =>
  M.cond t62
  (M.draw (fun w =>
  M.loadA 2 t7 (fun t63 w =>
  M.store 2 t5 t63 (fun _ w =>
  M.loadA 2 t5 (fun r1 w => R (.tuple #[(Value.pointer none), r1]) w) w) w) w) w)
  (M.bin .add (s1.getD 0 undef) (Value.int IntKind.i64 1) (fun t26 w =>
  K1 [t26] w) w)) w) w)) w) w) w) w) w) w) w) w) w) w) w) w) w) w) w) w) w) w) w)
  (M.draw (fun w =>
  M.loadA 2 t7 (fun t65 w =>
  M.store 2 t5 t65 (fun _ w =>
  M.loadA 2 t5 (fun r1 w => R (.tuple #[t15, r1]) w) w) w) w) w)) w) w) w)) w) w) w) w) w) w
theorem ok6 (x0 x1 : Value) (R : Kt) (w : World) (h : sh6 x0 x1 R w) : Ret Try.prog 6 #[x0, x1] w R :=
  ret_mk <| calls_of_comp mixed (c := Try.f6.body.getD .skip) (args := [x0, x1]) (rs := [(ResultVar.tmp 4), (ResultVar.cell 5 27)]) (Ann.seq Ann.text (Ann.seq Ann.text (Ann.seq (Ann.seq Ann.text (Ann.cond (Ann.seq (Ann.draw (Sch.take 0 (Sch.take 1 (Sch.one 2 Sch.done)))) Ann.leaf) Ann.leaf)) (Ann.seq (Ann.seq Ann.text (Ann.block (Ann.loop [8] [4, 9, 10, 11, 12, 13, 21, 22, 23, 24, 25, 26, 27, 28, 29, 30, 31, 32, 33, 34, 35, 36, 37, 38, 39, 40, 41, 42, 43, 44, 45, 46, 47, 48, 49, 50, 51, 52, 53, 54, 55, 56, 57, 58, 59, 60, 61, 62, 63] (Ann.seq (Ann.seq Ann.text (Ann.cond Ann.leaf Ann.leaf)) (Ann.seq (Ann.block (Ann.seq Ann.text (Ann.join [11, 12, 13] [36, 37, 38, 39, 40, 41, 42, 43, 44, 45] (Ann.draw (Sch.take 0 (Sch.take 1 (Sch.take 2 (Sch.take 3 (Sch.take 4 (Sch.two 5 10 (Sch.take 6 (Sch.take 7 (Sch.take 8 (Sch.take 9 (Sch.one 10 (Sch.one 11 (Sch.take 12 (Sch.take 13 Sch.done)))))))) (Sch.one 5 (Sch.take 6 (Sch.take 7 (Sch.take 8 (Sch.take 9 (Sch.one 11 (Sch.take 12 (Sch.take 13 Sch.done))))))))))))))) (Ann.seq Ann.text (Ann.seq (Ann.draw (Sch.take 0 (Sch.take 1 (Sch.take 2 (Sch.take 3 (Sch.take 4 (Sch.take 5 (Sch.take 6 (Sch.take 7 (Sch.take 8 (Sch.take 9 (Sch.take 11 (Sch.take 12 (Sch.take 13 (Sch.one 10 (Sch.take 14 (Sch.take 15 Sch.done))))))))))))))))) (Ann.cond (Ann.seq (Ann.draw (Sch.take 0 (Sch.take 1 (Sch.one 2 Sch.done)))) Ann.leaf) Ann.leaf)))))) Ann.text))))) (Ann.seq (Ann.draw (Sch.take 0 (Sch.take 1 (Sch.take 2 (Sch.one 3 Sch.done))))) Ann.leaf)))))
    Try.func6 (by kernel_rfl) (by kernel_rfl)
    (Eq.mp (by kernel_rfl) h)

/-- A deed: its cells are a term's. -/
def askN (most : Int) (N : List Nd) (x : Nd) : List Nd × Int × Int :=
  if x.op = 0 then constN most N x.wd x.val else if x.op = 1 then varN most N x.wd x.a else if x.op = 2 then unaryN most N x.a x.b
  else if x.op = 3 then binaryN most N x.a x.b x.c else if x.op = 4 then iteN most N x.a x.b x.c else if x.op = 5 then extractN most N x.a x.b x.wd
  else if x.op = 6 then concatN most N x.a x.b else extendN most N x.a x.wd (decide (x.b.tmod 2 ≠ 0))
theorem rem2 (b : Int) : ibin .rem .i64 b 2 = some (vi (b.tmod 2)) := by
  simp only [ibin]
  rw [if_neg (by omega)]
section
variable {w : World} {F : Nat → Prop} {p : Nat} {N : List Nd} {most : Int}
theorem AskO.out {w1 w2 : World} {res : List Nd × Int × Int} {r : Value} (k : Keep w w1 No) (g : AskO w1 F p most res r w2) :
    M.extract 0 r (fun t w' => M.extract 1 r (fun t2 w'' => AskO w F p most res (.tuple #[t, t2]) w'') w') w2 := by
  obtain ⟨F', rfl, h2, h3, h4⟩ := g
  refine M.extract_i rfl ?_
  refine M.extract_i rfl ?_
  exact AskO.from k ⟨F', rfl, h2, h3, h4⟩
theorem made_ret (h : DagO w F p N most) (x : Nd) : Ret Try.prog 17 #[ptr p, encN x] w (AskO w F p most (askN most N x)) := by
  refine ok17 _ _ _ _ ?_
  unfold sh17
  refine M.new_i (l := x.cells) (fun w1 b1 k1 s1 => ?_)
  have b1 : Blk w1 w.heap.size [vi x.op, vi x.wd, vi x.a, vi x.b, vi x.c, vw x.val] := b1
  have hd := h.keepN k1
  unfold askN
  by_cases h0 : x.op = 0
  · rw [if_pos h0]
    (repeat (first|refine ja ?_|refine jb ?_|refine jc ?_|refine jd ?_|refine je ?_|refine jf ?_|refine jg ?_|refine jh ?_|refine ji ?_|refine jj ?_|refine jk ?_|refine jl ?_|refine jm ?_|refine jn ?_|refine jo ?_|refine jp ?_|refine jq ?_|refine jr ?_|refine js ?_|refine jt ?_|refine ju ?_|refine jv ?_|refine jw ?_|refine jx ?_|refine jy ?_|refine jz ?_|refine jA ?_|refine jB ?_|refine jC ?_|refine jD ?_|refine jE ?_|refine jF ?_|refine jG ?_|refine jH ?_|refine jI ?_|refine jJ ?_|refine jK ?_|refine jL ?_|refine jM (by assumption) ?_|refine jN (by assumption) rfl ?_|refine jO (by assumption) ?_|refine jP (by assumption) rfl ?_|refine jQ ?_|refine jR ?_|refine jS ?_|refine jT ?_|refine jU (by assumption) rfl ?_))
    exact M.call_i (const_ret hd x.wd x.val) (fun _ _ g => AskO.out k1 g)
  by_cases h1 : x.op = 1
  · rw [if_neg h0, if_pos h1]
    (repeat (first|refine ja ?_|refine jb ?_|refine jc ?_|refine jd ?_|refine je ?_|refine jf ?_|refine jg ?_|refine jh ?_|refine ji ?_|refine jj ?_|refine jk ?_|refine jl ?_|refine jm ?_|refine jn ?_|refine jo ?_|refine jp ?_|refine jq ?_|refine jr ?_|refine js ?_|refine jt ?_|refine ju ?_|refine jv ?_|refine jw ?_|refine jx ?_|refine jy ?_|refine jz ?_|refine jA ?_|refine jB ?_|refine jC ?_|refine jD ?_|refine jE ?_|refine jF ?_|refine jG ?_|refine jH ?_|refine jI ?_|refine jJ ?_|refine jK ?_|refine jL ?_|refine jM (by assumption) ?_|refine jN (by assumption) rfl ?_|refine jO (by assumption) ?_|refine jP (by assumption) rfl ?_|refine jQ ?_|refine jR ?_|refine jS ?_|refine jT ?_|refine jU (by assumption) rfl ?_))
    exact M.call_i (var_ret hd x.wd x.a) (fun _ _ g => AskO.out k1 g)
  by_cases h2 : x.op = 2
  · rw [if_neg h0, if_neg h1, if_pos h2]
    (repeat (first|refine ja ?_|refine jb ?_|refine jc ?_|refine jd ?_|refine je ?_|refine jf ?_|refine jg ?_|refine jh ?_|refine ji ?_|refine jj ?_|refine jk ?_|refine jl ?_|refine jm ?_|refine jn ?_|refine jo ?_|refine jp ?_|refine jq ?_|refine jr ?_|refine js ?_|refine jt ?_|refine ju ?_|refine jv ?_|refine jw ?_|refine jx ?_|refine jy ?_|refine jz ?_|refine jA ?_|refine jB ?_|refine jC ?_|refine jD ?_|refine jE ?_|refine jF ?_|refine jG ?_|refine jH ?_|refine jI ?_|refine jJ ?_|refine jK ?_|refine jL ?_|refine jM (by assumption) ?_|refine jN (by assumption) rfl ?_|refine jO (by assumption) ?_|refine jP (by assumption) rfl ?_|refine jQ ?_|refine jR ?_|refine jS ?_|refine jT ?_|refine jU (by assumption) rfl ?_))
    exact M.call_i (unary_ret hd x.a x.b) (fun _ _ g => AskO.out k1 g)
  by_cases h3 : x.op = 3
  · rw [if_neg h0, if_neg h1, if_neg h2, if_pos h3]
    (repeat (first|refine ja ?_|refine jb ?_|refine jc ?_|refine jd ?_|refine je ?_|refine jf ?_|refine jg ?_|refine jh ?_|refine ji ?_|refine jj ?_|refine jk ?_|refine jl ?_|refine jm ?_|refine jn ?_|refine jo ?_|refine jp ?_|refine jq ?_|refine jr ?_|refine js ?_|refine jt ?_|refine ju ?_|refine jv ?_|refine jw ?_|refine jx ?_|refine jy ?_|refine jz ?_|refine jA ?_|refine jB ?_|refine jC ?_|refine jD ?_|refine jE ?_|refine jF ?_|refine jG ?_|refine jH ?_|refine jI ?_|refine jJ ?_|refine jK ?_|refine jL ?_|refine jM (by assumption) ?_|refine jN (by assumption) rfl ?_|refine jO (by assumption) ?_|refine jP (by assumption) rfl ?_|refine jQ ?_|refine jR ?_|refine jS ?_|refine jT ?_|refine jU (by assumption) rfl ?_))
    exact M.call_i (binary_ret hd x.a x.b x.c) (fun _ _ g => AskO.out k1 g)
  by_cases h4 : x.op = 4
  · rw [if_neg h0, if_neg h1, if_neg h2, if_neg h3, if_pos h4]
    (repeat (first|refine ja ?_|refine jb ?_|refine jc ?_|refine jd ?_|refine je ?_|refine jf ?_|refine jg ?_|refine jh ?_|refine ji ?_|refine jj ?_|refine jk ?_|refine jl ?_|refine jm ?_|refine jn ?_|refine jo ?_|refine jp ?_|refine jq ?_|refine jr ?_|refine js ?_|refine jt ?_|refine ju ?_|refine jv ?_|refine jw ?_|refine jx ?_|refine jy ?_|refine jz ?_|refine jA ?_|refine jB ?_|refine jC ?_|refine jD ?_|refine jE ?_|refine jF ?_|refine jG ?_|refine jH ?_|refine jI ?_|refine jJ ?_|refine jK ?_|refine jL ?_|refine jM (by assumption) ?_|refine jN (by assumption) rfl ?_|refine jO (by assumption) ?_|refine jP (by assumption) rfl ?_|refine jQ ?_|refine jR ?_|refine jS ?_|refine jT ?_|refine jU (by assumption) rfl ?_))
    exact M.call_i (ite_ret hd x.a x.b x.c) (fun _ _ g => AskO.out k1 g)
  by_cases h5 : x.op = 5
  · rw [if_neg h0, if_neg h1, if_neg h2, if_neg h3, if_neg h4, if_pos h5]
    (repeat (first|refine ja ?_|refine jb ?_|refine jc ?_|refine jd ?_|refine je ?_|refine jf ?_|refine jg ?_|refine jh ?_|refine ji ?_|refine jj ?_|refine jk ?_|refine jl ?_|refine jm ?_|refine jn ?_|refine jo ?_|refine jp ?_|refine jq ?_|refine jr ?_|refine js ?_|refine jt ?_|refine ju ?_|refine jv ?_|refine jw ?_|refine jx ?_|refine jy ?_|refine jz ?_|refine jA ?_|refine jB ?_|refine jC ?_|refine jD ?_|refine jE ?_|refine jF ?_|refine jG ?_|refine jH ?_|refine jI ?_|refine jJ ?_|refine jK ?_|refine jL ?_|refine jM (by assumption) ?_|refine jN (by assumption) rfl ?_|refine jO (by assumption) ?_|refine jP (by assumption) rfl ?_|refine jQ ?_|refine jR ?_|refine jS ?_|refine jT ?_|refine jU (by assumption) rfl ?_))
    exact M.call_i (extract_ret hd x.a x.b x.wd) (fun _ _ g => AskO.out k1 g)
  by_cases h6 : x.op = 6
  · rw [if_neg h0, if_neg h1, if_neg h2, if_neg h3, if_neg h4, if_neg h5, if_pos h6]
    (repeat (first|refine ja ?_|refine jb ?_|refine jc ?_|refine jd ?_|refine je ?_|refine jf ?_|refine jg ?_|refine jh ?_|refine ji ?_|refine jj ?_|refine jk ?_|refine jl ?_|refine jm ?_|refine jn ?_|refine jo ?_|refine jp ?_|refine jq ?_|refine jr ?_|refine js ?_|refine jt ?_|refine ju ?_|refine jv ?_|refine jw ?_|refine jx ?_|refine jy ?_|refine jz ?_|refine jA ?_|refine jB ?_|refine jC ?_|refine jD ?_|refine jE ?_|refine jF ?_|refine jG ?_|refine jH ?_|refine jI ?_|refine jJ ?_|refine jK ?_|refine jL ?_|refine jM (by assumption) ?_|refine jN (by assumption) rfl ?_|refine jO (by assumption) ?_|refine jP (by assumption) rfl ?_|refine jQ ?_|refine jR ?_|refine jS ?_|refine jT ?_|refine jU (by assumption) rfl ?_))
    exact M.call_i (concat_ret hd x.a x.b) (fun _ _ g => AskO.out k1 g)
  rw [if_neg h0, if_neg h1, if_neg h2, if_neg h3, if_neg h4, if_neg h5, if_neg h6]
  (repeat (first|refine ja ?_|refine jb ?_|refine jc ?_|refine jd ?_|refine je ?_|refine jf ?_|refine jg ?_|refine jh ?_|refine ji ?_|refine jj ?_|refine jk ?_|refine jl ?_|refine jm ?_|refine jn ?_|refine jo ?_|refine jp ?_|refine jq ?_|refine jr ?_|refine js ?_|refine jt ?_|refine ju ?_|refine jv ?_|refine jw ?_|refine jx ?_|refine jy ?_|refine jz ?_|refine jA ?_|refine jB ?_|refine jC ?_|refine jD ?_|refine jE ?_|refine jF ?_|refine jG ?_|refine jH ?_|refine jI ?_|refine jJ ?_|refine jK ?_|refine jL ?_|refine jM (by assumption) ?_|refine jN (by assumption) rfl ?_|refine jO (by assumption) ?_|refine jP (by assumption) rfl ?_|refine jQ ?_|refine jR ?_|refine jS ?_|refine jT ?_|refine jU (by assumption) rfl ?_))
  refine M.bin_i (rem2 x.b) ?_
  refine M.neq_i ?_
  exact M.call_i (extend_ret hd x.a x.wd (decide (x.b.tmod 2 ≠ 0))) (fun _ _ g => AskO.out k1 g)
end
section
variable {w : World} {D : Nat → Prop} {v : Value} {N : List Nd} {most : Int}
theorem RAsk.out {w0 w1 w2 : World} {res : List Nd × Int × Int} {r : Value} {p4 : Nat} {x y : Value} (k : Keep w0 w1 No) (hp : w0.heap.size ≤ p4) (b4 : Blk w1 p4 [x, y]) (g : RAsk w1 (fun b => D b ∧ b < w0.heap.size) most res r w2) :
    M.extract 0 r (fun t17 w => M.extract 1 r (fun t18 w => M.extract 2 r (fun t19 w => M.store 2 (ptr p4) t17 (fun _ w => M.loadA 2 (ptr p4) (fun r0 w' => RAsk w0 D most res (.tuple #[r0, t18, t19]) w') w) w) w) w) w2 := by
  obtain ⟨d, rfl, h2, h3⟩ := g
  obtain ⟨A, c, rfl, hr⟩ := id h2
  refine M.extract_i rfl ?_
  refine M.extract_i rfl ?_
  refine M.extract_i rfl ?_
  have hl := b4.lt
  refine rout (R := fun r0 w' => RAsk w0 D most res (.tuple #[r0, vi res.2.1, vi res.2.2]) w') (b4.keep h3 (fun h => h)) rfl two_one (fun w3 k3 => ?_)
  have q := k.size
  refine ⟨_, rfl, (h2.keep k3 (fun b _ h e => ?_)).mono (fun b _ h => ?_), (k.trans h3 (fun _ _ h => h)).trans k3 (fun b hb h => by omega)⟩
  · have e : b = p4 := e
    rcases h with h | h
    · have := h.2; omega
    · omega
  · rcases h with h | h
    · exact .inl h.1
    · exact .inr (by omega)
theorem meant_ret (h : RD w D v N most) (hN : N.length ≤ 1000000) (hg : GoodN N) (x : Nd) : Ret Try.prog 18 #[v, encN x] w (RAsk w D most (askN most N x)) := by
  have h := h.mono (D' := fun b => D b ∧ b < w.heap.size) (fun b hb h => ⟨h, hb⟩)
  obtain ⟨A, c, rfl, hr⟩ := id h
  refine ok18 _ _ _ _ ?_
  unfold sh18
  refine M.new_i (l := [.slice A N.length c, vi most]) (fun w1 b1 k1 s1 => ?_)
  refine M.new_i (l := x.cells) (fun w2 b2 k2 s2 => ?_)
  refine M.new_i (l := [.slice none 0 0, vi 0]) (fun w3 b3 k3 s3 => ?_)
  have b1 := (b1.keep k2 (fun h => h)).keep k3 (fun h => h)
  have b2 : Blk w3 w1.heap.size [vi x.op, vi x.wd, vi x.a, vi x.b, vi x.c, vw x.val] := b2.keep k3 (fun h => h)
  have k03 := (k1.trans k2 (fun _ _ h => h)).trans k3 (fun _ _ h => h)
  have hd := h.keep k03 (fun _ _ _ h => h)
  have hp : w.heap.size ≤ w2.heap.size := by omega
  unfold askN
  by_cases h0 : x.op = 0
  · rw [if_pos h0]
    (repeat (first|refine ja ?_|refine jb ?_|refine jc ?_|refine jd ?_|refine je ?_|refine jf ?_|refine jg ?_|refine jh ?_|refine ji ?_|refine jj ?_|refine jk ?_|refine jl ?_|refine jm ?_|refine jn ?_|refine jo ?_|refine jp ?_|refine jq ?_|refine jr ?_|refine js ?_|refine jt ?_|refine ju ?_|refine jv ?_|refine jw ?_|refine jx ?_|refine jy ?_|refine jz ?_|refine jA ?_|refine jB ?_|refine jC ?_|refine jD ?_|refine jE ?_|refine jF ?_|refine jG ?_|refine jH ?_|refine jI ?_|refine jJ ?_|refine jK ?_|refine jL ?_|refine jM (by assumption) ?_|refine jN (by assumption) rfl ?_|refine jO (by assumption) ?_|refine jP (by assumption) rfl ?_|refine jQ ?_|refine jR ?_|refine jS ?_|refine jT ?_|refine jU (by assumption) rfl ?_))
    refine M.loadAll_i b1 rfl ?_
    (repeat (first|refine ja ?_|refine jb ?_|refine jc ?_|refine jd ?_|refine je ?_|refine jf ?_|refine jg ?_|refine jh ?_|refine ji ?_|refine jj ?_|refine jk ?_|refine jl ?_|refine jm ?_|refine jn ?_|refine jo ?_|refine jp ?_|refine jq ?_|refine jr ?_|refine js ?_|refine jt ?_|refine ju ?_|refine jv ?_|refine jw ?_|refine jx ?_|refine jy ?_|refine jz ?_|refine jA ?_|refine jB ?_|refine jC ?_|refine jD ?_|refine jE ?_|refine jF ?_|refine jG ?_|refine jH ?_|refine jI ?_|refine jJ ?_|refine jK ?_|refine jL ?_|refine jM (by assumption) ?_|refine jN (by assumption) rfl ?_|refine jO (by assumption) ?_|refine jP (by assumption) rfl ?_|refine jQ ?_|refine jR ?_|refine jS ?_|refine jT ?_|refine jU (by assumption) rfl ?_))
    exact M.call_i (rconst_ret hd hN x.wd x.val) (fun _ _ g => RAsk.out k03 hp b3 g)
  by_cases h1 : x.op = 1
  · rw [if_neg h0, if_pos h1]
    (repeat (first|refine ja ?_|refine jb ?_|refine jc ?_|refine jd ?_|refine je ?_|refine jf ?_|refine jg ?_|refine jh ?_|refine ji ?_|refine jj ?_|refine jk ?_|refine jl ?_|refine jm ?_|refine jn ?_|refine jo ?_|refine jp ?_|refine jq ?_|refine jr ?_|refine js ?_|refine jt ?_|refine ju ?_|refine jv ?_|refine jw ?_|refine jx ?_|refine jy ?_|refine jz ?_|refine jA ?_|refine jB ?_|refine jC ?_|refine jD ?_|refine jE ?_|refine jF ?_|refine jG ?_|refine jH ?_|refine jI ?_|refine jJ ?_|refine jK ?_|refine jL ?_|refine jM (by assumption) ?_|refine jN (by assumption) rfl ?_|refine jO (by assumption) ?_|refine jP (by assumption) rfl ?_|refine jQ ?_|refine jR ?_|refine jS ?_|refine jT ?_|refine jU (by assumption) rfl ?_))
    refine M.loadAll_i b1 rfl ?_
    (repeat (first|refine ja ?_|refine jb ?_|refine jc ?_|refine jd ?_|refine je ?_|refine jf ?_|refine jg ?_|refine jh ?_|refine ji ?_|refine jj ?_|refine jk ?_|refine jl ?_|refine jm ?_|refine jn ?_|refine jo ?_|refine jp ?_|refine jq ?_|refine jr ?_|refine js ?_|refine jt ?_|refine ju ?_|refine jv ?_|refine jw ?_|refine jx ?_|refine jy ?_|refine jz ?_|refine jA ?_|refine jB ?_|refine jC ?_|refine jD ?_|refine jE ?_|refine jF ?_|refine jG ?_|refine jH ?_|refine jI ?_|refine jJ ?_|refine jK ?_|refine jL ?_|refine jM (by assumption) ?_|refine jN (by assumption) rfl ?_|refine jO (by assumption) ?_|refine jP (by assumption) rfl ?_|refine jQ ?_|refine jR ?_|refine jS ?_|refine jT ?_|refine jU (by assumption) rfl ?_))
    exact M.call_i (rvar_ask hd hN x.wd x.a) (fun _ _ g => RAsk.out k03 hp b3 g)
  by_cases h2 : x.op = 2
  · rw [if_neg h0, if_neg h1, if_pos h2]
    (repeat (first|refine ja ?_|refine jb ?_|refine jc ?_|refine jd ?_|refine je ?_|refine jf ?_|refine jg ?_|refine jh ?_|refine ji ?_|refine jj ?_|refine jk ?_|refine jl ?_|refine jm ?_|refine jn ?_|refine jo ?_|refine jp ?_|refine jq ?_|refine jr ?_|refine js ?_|refine jt ?_|refine ju ?_|refine jv ?_|refine jw ?_|refine jx ?_|refine jy ?_|refine jz ?_|refine jA ?_|refine jB ?_|refine jC ?_|refine jD ?_|refine jE ?_|refine jF ?_|refine jG ?_|refine jH ?_|refine jI ?_|refine jJ ?_|refine jK ?_|refine jL ?_|refine jM (by assumption) ?_|refine jN (by assumption) rfl ?_|refine jO (by assumption) ?_|refine jP (by assumption) rfl ?_|refine jQ ?_|refine jR ?_|refine jS ?_|refine jT ?_|refine jU (by assumption) rfl ?_))
    refine M.loadAll_i b1 rfl ?_
    (repeat (first|refine ja ?_|refine jb ?_|refine jc ?_|refine jd ?_|refine je ?_|refine jf ?_|refine jg ?_|refine jh ?_|refine ji ?_|refine jj ?_|refine jk ?_|refine jl ?_|refine jm ?_|refine jn ?_|refine jo ?_|refine jp ?_|refine jq ?_|refine jr ?_|refine js ?_|refine jt ?_|refine ju ?_|refine jv ?_|refine jw ?_|refine jx ?_|refine jy ?_|refine jz ?_|refine jA ?_|refine jB ?_|refine jC ?_|refine jD ?_|refine jE ?_|refine jF ?_|refine jG ?_|refine jH ?_|refine jI ?_|refine jJ ?_|refine jK ?_|refine jL ?_|refine jM (by assumption) ?_|refine jN (by assumption) rfl ?_|refine jO (by assumption) ?_|refine jP (by assumption) rfl ?_|refine jQ ?_|refine jR ?_|refine jS ?_|refine jT ?_|refine jU (by assumption) rfl ?_))
    exact M.call_i (runary_ask hd hN x.a x.b) (fun _ _ g => RAsk.out k03 hp b3 g)
  by_cases h3 : x.op = 3
  · rw [if_neg h0, if_neg h1, if_neg h2, if_pos h3]
    (repeat (first|refine ja ?_|refine jb ?_|refine jc ?_|refine jd ?_|refine je ?_|refine jf ?_|refine jg ?_|refine jh ?_|refine ji ?_|refine jj ?_|refine jk ?_|refine jl ?_|refine jm ?_|refine jn ?_|refine jo ?_|refine jp ?_|refine jq ?_|refine jr ?_|refine js ?_|refine jt ?_|refine ju ?_|refine jv ?_|refine jw ?_|refine jx ?_|refine jy ?_|refine jz ?_|refine jA ?_|refine jB ?_|refine jC ?_|refine jD ?_|refine jE ?_|refine jF ?_|refine jG ?_|refine jH ?_|refine jI ?_|refine jJ ?_|refine jK ?_|refine jL ?_|refine jM (by assumption) ?_|refine jN (by assumption) rfl ?_|refine jO (by assumption) ?_|refine jP (by assumption) rfl ?_|refine jQ ?_|refine jR ?_|refine jS ?_|refine jT ?_|refine jU (by assumption) rfl ?_))
    refine M.loadAll_i b1 rfl ?_
    (repeat (first|refine ja ?_|refine jb ?_|refine jc ?_|refine jd ?_|refine je ?_|refine jf ?_|refine jg ?_|refine jh ?_|refine ji ?_|refine jj ?_|refine jk ?_|refine jl ?_|refine jm ?_|refine jn ?_|refine jo ?_|refine jp ?_|refine jq ?_|refine jr ?_|refine js ?_|refine jt ?_|refine ju ?_|refine jv ?_|refine jw ?_|refine jx ?_|refine jy ?_|refine jz ?_|refine jA ?_|refine jB ?_|refine jC ?_|refine jD ?_|refine jE ?_|refine jF ?_|refine jG ?_|refine jH ?_|refine jI ?_|refine jJ ?_|refine jK ?_|refine jL ?_|refine jM (by assumption) ?_|refine jN (by assumption) rfl ?_|refine jO (by assumption) ?_|refine jP (by assumption) rfl ?_|refine jQ ?_|refine jR ?_|refine jS ?_|refine jT ?_|refine jU (by assumption) rfl ?_))
    exact M.call_i (rbinary_ask hd hN x.a x.b x.c) (fun _ _ g => RAsk.out k03 hp b3 g)
  by_cases h4 : x.op = 4
  · rw [if_neg h0, if_neg h1, if_neg h2, if_neg h3, if_pos h4]
    (repeat (first|refine ja ?_|refine jb ?_|refine jc ?_|refine jd ?_|refine je ?_|refine jf ?_|refine jg ?_|refine jh ?_|refine ji ?_|refine jj ?_|refine jk ?_|refine jl ?_|refine jm ?_|refine jn ?_|refine jo ?_|refine jp ?_|refine jq ?_|refine jr ?_|refine js ?_|refine jt ?_|refine ju ?_|refine jv ?_|refine jw ?_|refine jx ?_|refine jy ?_|refine jz ?_|refine jA ?_|refine jB ?_|refine jC ?_|refine jD ?_|refine jE ?_|refine jF ?_|refine jG ?_|refine jH ?_|refine jI ?_|refine jJ ?_|refine jK ?_|refine jL ?_|refine jM (by assumption) ?_|refine jN (by assumption) rfl ?_|refine jO (by assumption) ?_|refine jP (by assumption) rfl ?_|refine jQ ?_|refine jR ?_|refine jS ?_|refine jT ?_|refine jU (by assumption) rfl ?_))
    refine M.loadAll_i b1 rfl ?_
    (repeat (first|refine ja ?_|refine jb ?_|refine jc ?_|refine jd ?_|refine je ?_|refine jf ?_|refine jg ?_|refine jh ?_|refine ji ?_|refine jj ?_|refine jk ?_|refine jl ?_|refine jm ?_|refine jn ?_|refine jo ?_|refine jp ?_|refine jq ?_|refine jr ?_|refine js ?_|refine jt ?_|refine ju ?_|refine jv ?_|refine jw ?_|refine jx ?_|refine jy ?_|refine jz ?_|refine jA ?_|refine jB ?_|refine jC ?_|refine jD ?_|refine jE ?_|refine jF ?_|refine jG ?_|refine jH ?_|refine jI ?_|refine jJ ?_|refine jK ?_|refine jL ?_|refine jM (by assumption) ?_|refine jN (by assumption) rfl ?_|refine jO (by assumption) ?_|refine jP (by assumption) rfl ?_|refine jQ ?_|refine jR ?_|refine jS ?_|refine jT ?_|refine jU (by assumption) rfl ?_))
    exact M.call_i (rite_ask hd hN x.a x.b x.c) (fun _ _ g => RAsk.out k03 hp b3 g)
  by_cases h5 : x.op = 5
  · rw [if_neg h0, if_neg h1, if_neg h2, if_neg h3, if_neg h4, if_pos h5]
    (repeat (first|refine ja ?_|refine jb ?_|refine jc ?_|refine jd ?_|refine je ?_|refine jf ?_|refine jg ?_|refine jh ?_|refine ji ?_|refine jj ?_|refine jk ?_|refine jl ?_|refine jm ?_|refine jn ?_|refine jo ?_|refine jp ?_|refine jq ?_|refine jr ?_|refine js ?_|refine jt ?_|refine ju ?_|refine jv ?_|refine jw ?_|refine jx ?_|refine jy ?_|refine jz ?_|refine jA ?_|refine jB ?_|refine jC ?_|refine jD ?_|refine jE ?_|refine jF ?_|refine jG ?_|refine jH ?_|refine jI ?_|refine jJ ?_|refine jK ?_|refine jL ?_|refine jM (by assumption) ?_|refine jN (by assumption) rfl ?_|refine jO (by assumption) ?_|refine jP (by assumption) rfl ?_|refine jQ ?_|refine jR ?_|refine jS ?_|refine jT ?_|refine jU (by assumption) rfl ?_))
    refine M.loadAll_i b1 rfl ?_
    (repeat (first|refine ja ?_|refine jb ?_|refine jc ?_|refine jd ?_|refine je ?_|refine jf ?_|refine jg ?_|refine jh ?_|refine ji ?_|refine jj ?_|refine jk ?_|refine jl ?_|refine jm ?_|refine jn ?_|refine jo ?_|refine jp ?_|refine jq ?_|refine jr ?_|refine js ?_|refine jt ?_|refine ju ?_|refine jv ?_|refine jw ?_|refine jx ?_|refine jy ?_|refine jz ?_|refine jA ?_|refine jB ?_|refine jC ?_|refine jD ?_|refine jE ?_|refine jF ?_|refine jG ?_|refine jH ?_|refine jI ?_|refine jJ ?_|refine jK ?_|refine jL ?_|refine jM (by assumption) ?_|refine jN (by assumption) rfl ?_|refine jO (by assumption) ?_|refine jP (by assumption) rfl ?_|refine jQ ?_|refine jR ?_|refine jS ?_|refine jT ?_|refine jU (by assumption) rfl ?_))
    exact M.call_i (rextract_ask hd hN hg x.a x.b x.wd) (fun _ _ g => RAsk.out k03 hp b3 g)
  by_cases h6 : x.op = 6
  · rw [if_neg h0, if_neg h1, if_neg h2, if_neg h3, if_neg h4, if_neg h5, if_pos h6]
    (repeat (first|refine ja ?_|refine jb ?_|refine jc ?_|refine jd ?_|refine je ?_|refine jf ?_|refine jg ?_|refine jh ?_|refine ji ?_|refine jj ?_|refine jk ?_|refine jl ?_|refine jm ?_|refine jn ?_|refine jo ?_|refine jp ?_|refine jq ?_|refine jr ?_|refine js ?_|refine jt ?_|refine ju ?_|refine jv ?_|refine jw ?_|refine jx ?_|refine jy ?_|refine jz ?_|refine jA ?_|refine jB ?_|refine jC ?_|refine jD ?_|refine jE ?_|refine jF ?_|refine jG ?_|refine jH ?_|refine jI ?_|refine jJ ?_|refine jK ?_|refine jL ?_|refine jM (by assumption) ?_|refine jN (by assumption) rfl ?_|refine jO (by assumption) ?_|refine jP (by assumption) rfl ?_|refine jQ ?_|refine jR ?_|refine jS ?_|refine jT ?_|refine jU (by assumption) rfl ?_))
    refine M.loadAll_i b1 rfl ?_
    (repeat (first|refine ja ?_|refine jb ?_|refine jc ?_|refine jd ?_|refine je ?_|refine jf ?_|refine jg ?_|refine jh ?_|refine ji ?_|refine jj ?_|refine jk ?_|refine jl ?_|refine jm ?_|refine jn ?_|refine jo ?_|refine jp ?_|refine jq ?_|refine jr ?_|refine js ?_|refine jt ?_|refine ju ?_|refine jv ?_|refine jw ?_|refine jx ?_|refine jy ?_|refine jz ?_|refine jA ?_|refine jB ?_|refine jC ?_|refine jD ?_|refine jE ?_|refine jF ?_|refine jG ?_|refine jH ?_|refine jI ?_|refine jJ ?_|refine jK ?_|refine jL ?_|refine jM (by assumption) ?_|refine jN (by assumption) rfl ?_|refine jO (by assumption) ?_|refine jP (by assumption) rfl ?_|refine jQ ?_|refine jR ?_|refine jS ?_|refine jT ?_|refine jU (by assumption) rfl ?_))
    exact M.call_i (rconcat_ask hd hN hg x.a x.b) (fun _ _ g => RAsk.out k03 hp b3 g)
  rw [if_neg h0, if_neg h1, if_neg h2, if_neg h3, if_neg h4, if_neg h5, if_neg h6]
  (repeat (first|refine ja ?_|refine jb ?_|refine jc ?_|refine jd ?_|refine je ?_|refine jf ?_|refine jg ?_|refine jh ?_|refine ji ?_|refine jj ?_|refine jk ?_|refine jl ?_|refine jm ?_|refine jn ?_|refine jo ?_|refine jp ?_|refine jq ?_|refine jr ?_|refine js ?_|refine jt ?_|refine ju ?_|refine jv ?_|refine jw ?_|refine jx ?_|refine jy ?_|refine jz ?_|refine jA ?_|refine jB ?_|refine jC ?_|refine jD ?_|refine jE ?_|refine jF ?_|refine jG ?_|refine jH ?_|refine jI ?_|refine jJ ?_|refine jK ?_|refine jL ?_|refine jM (by assumption) ?_|refine jN (by assumption) rfl ?_|refine jO (by assumption) ?_|refine jP (by assumption) rfl ?_|refine jQ ?_|refine jR ?_|refine jS ?_|refine jT ?_|refine jU (by assumption) rfl ?_))
  refine M.loadAll_i b1 rfl ?_
  (repeat (first|refine ja ?_|refine jb ?_|refine jc ?_|refine jd ?_|refine je ?_|refine jf ?_|refine jg ?_|refine jh ?_|refine ji ?_|refine jj ?_|refine jk ?_|refine jl ?_|refine jm ?_|refine jn ?_|refine jo ?_|refine jp ?_|refine jq ?_|refine jr ?_|refine js ?_|refine jt ?_|refine ju ?_|refine jv ?_|refine jw ?_|refine jx ?_|refine jy ?_|refine jz ?_|refine jA ?_|refine jB ?_|refine jC ?_|refine jD ?_|refine jE ?_|refine jF ?_|refine jG ?_|refine jH ?_|refine jI ?_|refine jJ ?_|refine jK ?_|refine jL ?_|refine jM (by assumption) ?_|refine jN (by assumption) rfl ?_|refine jO (by assumption) ?_|refine jP (by assumption) rfl ?_|refine jQ ?_|refine jR ?_|refine jS ?_|refine jT ?_|refine jU (by assumption) rfl ?_))
  refine M.bin_i (rem2 x.b) ?_
  refine M.neq_i ?_
  exact M.call_i (rextend_ask hd hN x.a x.wd (decide (x.b.tmod 2 ≠ 0))) (fun _ _ g => RAsk.out k03 hp b3 g)
end
end Go.Proofs.Ythkkjjbjpbgcpaa
