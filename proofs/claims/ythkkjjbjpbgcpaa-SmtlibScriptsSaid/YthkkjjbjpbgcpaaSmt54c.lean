import Derived.Test.YthkkjjbjpbgcpaaSmt54b
namespace Go.Proofs.Ythkkjjbjpbgcpaa
open Go.Mw
set_option linter.unusedVariables false
set_option linter.unusedSimpArgs false
set_option maxRecDepth 100000
attribute [local irreducible] M.val M.unit M.next M.pick M.new M.nilCheck M.load1 M.loadA M.store M.fieldAddr M.indexSl M.indexArr M.slice M.makeSlice M.buildSlice M.len M.lenS M.cap M.append M.extract M.conv M.not M.neg M.bin M.shift M.eqB M.eqNil M.scat M.call M.callv M.gd M.share M.cond M.loop M.draw pureW readW Ret
/-! breakwater/smtlib.pieces: function 23 -/
def sh23 (x0 x1 : Value) (R : Kt) (w : World) : Prop :=
  M.new 55 (Value.cells x1) (fun t3 w =>
  M.share (fun K1 w =>
  M.draw (fun w =>
  M.fieldAddr 2 t3 (fun t11 w =>
  M.load1 t11 (fun t12 w =>
  pureW Try.prog (Instr.build 63 #[(1, t12)]) (fun t13 w =>
  M.fieldAddr 3 t3 (fun t14 w =>
  M.load1 t14 (fun t15 w =>
  pureW Try.prog (Instr.build 63 #[(1, t15)]) (fun t16 w =>
  M.fieldAddr 4 t3 (fun t17 w =>
  M.load1 t17 (fun t18 w =>
  pureW Try.prog (Instr.build 63 #[(1, t18)]) (fun t19 w =>
  ((M.new 63 #[.string ByteArray.empty, .int .i64 0] (fun t5 w =>
  ((M.load1 t17 (fun v' _ => v' = t18) w) ∧ ((M.load1 t14 (fun v' _ => v' = t15) w) ∧ ((M.load1 t11 (fun v' _ => v' = t12) w) ∧ ((M.new 63 #[.string ByteArray.empty, .int .i64 0] (fun t6 w =>
  ((M.load1 t17 (fun v' _ => v' = t18) w) ∧ ((M.load1 t14 (fun v' _ => v' = t15) w) ∧ ((M.load1 t11 (fun v' _ => v' = t12) w) ∧ M.new 63 #[.string ByteArray.empty, .int .i64 0] (fun t7 w =>
  ((M.load1 t17 (fun v' _ => v' = t18) w) ∧ ((M.load1 t14 (fun v' _ => v' = t15) w) ∧ ((M.load1 t11 (fun v' _ => v' = t12) w) ∧ M.store 2 t5 t13 (fun _ w =>
  ((M.load1 t17 (fun v' _ => v' = t18) w) ∧ ((M.load1 t14 (fun v' _ => v' = t15) w) ∧ M.store 2 t6 t16 (fun _ w =>
  ((M.load1 t17 (fun v' _ => v' = t18) w) ∧ M.store 2 t7 t19 (fun _ w =>
  K1 [t5, t6, t7] w) w)) w))) w)))) w)))) w) ∧
   (M.new 63 #[.string ByteArray.empty, .int .i64 0] (fun t7_2 w =>
  ((M.load1 t17 (fun v' _ => v' = t18) w) ∧ ((M.load1 t14 (fun v' _ => v' = t15) w) ∧ ((M.load1 t11 (fun v' _ => v' = t12) w) ∧ M.new 63 #[.string ByteArray.empty, .int .i64 0] (fun t6_2 w =>
  ((M.load1 t17 (fun v' _ => v' = t18) w) ∧ ((M.load1 t14 (fun v' _ => v' = t15) w) ∧ ((M.load1 t11 (fun v' _ => v' = t12) w) ∧ M.store 2 t5 t13 (fun _ w =>
  ((M.load1 t17 (fun v' _ => v' = t18) w) ∧ ((M.load1 t14 (fun v' _ => v' = t15) w) ∧ M.store 2 t6_2 t16 (fun _ w =>
  ((M.load1 t17 (fun v' _ => v' = t18) w) ∧ M.store 2 t7_2 t19 (fun _ w =>
  K1 [t5, t6_2, t7_2] w) w)) w))) w)))) w)))) w)))))) w) ∧
   (M.new 63 #[.string ByteArray.empty, .int .i64 0] (fun t6_3 w =>
  ((M.load1 t17 (fun v' _ => v' = t18) w) ∧ ((M.load1 t14 (fun v' _ => v' = t15) w) ∧ ((M.load1 t11 (fun v' _ => v' = t12) w) ∧ ((M.new 63 #[.string ByteArray.empty, .int .i64 0] (fun t5_2 w =>
  ((M.load1 t17 (fun v' _ => v' = t18) w) ∧ ((M.load1 t14 (fun v' _ => v' = t15) w) ∧ ((M.load1 t11 (fun v' _ => v' = t12) w) ∧ M.new 63 #[.string ByteArray.empty, .int .i64 0] (fun t7_3 w =>
  ((M.load1 t17 (fun v' _ => v' = t18) w) ∧ ((M.load1 t14 (fun v' _ => v' = t15) w) ∧ ((M.load1 t11 (fun v' _ => v' = t12) w) ∧ M.store 2 t5_2 t13 (fun _ w =>
  ((M.load1 t17 (fun v' _ => v' = t18) w) ∧ ((M.load1 t14 (fun v' _ => v' = t15) w) ∧ M.store 2 t6_3 t16 (fun _ w =>
  ((M.load1 t17 (fun v' _ => v' = t18) w) ∧ M.store 2 t7_3 t19 (fun _ w =>
  K1 [t5_2, t6_3, t7_3] w) w)) w))) w)))) w)))) w) ∧
   (M.new 63 #[.string ByteArray.empty, .int .i64 0] (fun t7_4 w =>
  ((M.load1 t17 (fun v' _ => v' = t18) w) ∧ ((M.load1 t14 (fun v' _ => v' = t15) w) ∧ ((M.load1 t11 (fun v' _ => v' = t12) w) ∧ M.new 63 #[.string ByteArray.empty, .int .i64 0] (fun t5_3 w =>
  ((M.load1 t17 (fun v' _ => v' = t18) w) ∧ ((M.load1 t14 (fun v' _ => v' = t15) w) ∧ ((M.load1 t11 (fun v' _ => v' = t12) w) ∧ M.store 2 t5_3 t13 (fun _ w =>
  ((M.load1 t17 (fun v' _ => v' = t18) w) ∧ ((M.load1 t14 (fun v' _ => v' = t15) w) ∧ M.store 2 t6_3 t16 (fun _ w =>
  ((M.load1 t17 (fun v' _ => v' = t18) w) ∧ M.store 2 t7_4 t19 (fun _ w =>
  K1 [t5_3, t6_3, t7_4] w) w)) w))) w)))) w)))) w)))))) w) ∧
   (M.new 63 #[.string ByteArray.empty, .int .i64 0] (fun t7_5 w =>
  ((M.load1 t17 (fun v' _ => v' = t18) w) ∧ ((M.load1 t14 (fun v' _ => v' = t15) w) ∧ ((M.load1 t11 (fun v' _ => v' = t12) w) ∧ ((M.new 63 #[.string ByteArray.empty, .int .i64 0] (fun t5_4 w =>
  ((M.load1 t17 (fun v' _ => v' = t18) w) ∧ ((M.load1 t14 (fun v' _ => v' = t15) w) ∧ ((M.load1 t11 (fun v' _ => v' = t12) w) ∧ M.new 63 #[.string ByteArray.empty, .int .i64 0] (fun t6_4 w =>
  ((M.load1 t17 (fun v' _ => v' = t18) w) ∧ ((M.load1 t14 (fun v' _ => v' = t15) w) ∧ ((M.load1 t11 (fun v' _ => v' = t12) w) ∧ M.store 2 t5_4 t13 (fun _ w =>
  ((M.load1 t17 (fun v' _ => v' = t18) w) ∧ ((M.load1 t14 (fun v' _ => v' = t15) w) ∧ M.store 2 t6_4 t16 (fun _ w =>
  ((M.load1 t17 (fun v' _ => v' = t18) w) ∧ M.store 2 t7_5 t19 (fun _ w =>
  K1 [t5_4, t6_4, t7_5] w) w)) w))) w)))) w)))) w) ∧
   (M.new 63 #[.string ByteArray.empty, .int .i64 0] (fun t6_5 w =>
  ((M.load1 t17 (fun v' _ => v' = t18) w) ∧ ((M.load1 t14 (fun v' _ => v' = t15) w) ∧ ((M.load1 t11 (fun v' _ => v' = t12) w) ∧ M.new 63 #[.string ByteArray.empty, .int .i64 0] (fun t5_5 w =>
  ((M.load1 t17 (fun v' _ => v' = t18) w) ∧ ((M.load1 t14 (fun v' _ => v' = t15) w) ∧ ((M.load1 t11 (fun v' _ => v' = t12) w) ∧ M.store 2 t5_5 t13 (fun _ w =>
  ((M.load1 t17 (fun v' _ => v' = t18) w) ∧ ((M.load1 t14 (fun v' _ => v' = t15) w) ∧ M.store 2 t6_5 t16 (fun _ w =>
  ((M.load1 t17 (fun v' _ => v' = t18) w) ∧ M.store 2 t7_5 t19 (fun _ w =>
  K1 [t5_5, t6_5, t7_5] w) w)) w))) w)))) w)))) w)))))) w))) w) w) w) w) w) w) w) w) w) w) (fun s1 w => ∀ _ : List Value,
  M.call Try.prog 53 #[(Value.string { data := #[32] })] (fun t20 w =>
  M.call Try.prog 53 #[(Value.string { data := #[41] })] (fun t21 w =>
  M.new 63 #[.string ByteArray.empty, .int .i64 0] (fun t8 w =>
  M.new 63 #[.string ByteArray.empty, .int .i64 0] (fun t9 w =>
  M.store 2 t8 t20 (fun _ w =>
  M.store 2 t9 t21 (fun _ w =>
  M.draw (fun w =>
  M.fieldAddr 1 t3 (fun t22 w =>
  M.load1 t22 (fun t23 w =>
  M.fieldAddr 2 t3 (fun t25 w =>
  M.load1 t25 (fun t26 w =>
  M.call Try.prog 28 #[x0, t26] (fun t27 w =>
  ((M.load1 t22 (fun v' _ => v' = t23) w) ∧ M.bin .sub t23 t27 (fun t28 w =>
  M.call Try.prog 30 #[t28] (fun t29 w =>
  ((M.load1 t22 (fun v' _ => v' = t23) w) ∧ M.fieldAddr 0 t3 (fun t30 w =>
  M.load1 t30 (fun t31 w =>
  M.bin .eql t31 (Value.int IntKind.i64 20) (fun t33 w =>
  M.cond t33
  (M.draw (fun w =>
  M.fieldAddr 5 t3 (fun t34 w =>
  M.load1 t34 (fun t35 w =>
  M.fieldAddr 1 t3 (fun t39 w =>
  M.load1 t39 (fun t40 w =>
  M.call Try.prog 54 #[t35] (fun t36 w =>
  ((M.load1 t39 (fun v' _ => v' = t40) w) ∧ M.scat (Value.string { data := #[40, 95, 32, 98, 118] }) t36 (fun t37 w =>
  M.scat t37 (Value.string { data := #[32] }) (fun t38 w =>
  M.call Try.prog 30 #[t40] (fun t41 w =>
  M.scat t38 t41 (fun t42 w =>
  M.scat t42 (Value.string { data := #[41] }) (fun t43 w =>
  M.call Try.prog 53 #[t43] (fun t44 w =>
  M.buildSlice 63 2 #[.string ByteArray.empty, .int .i64 0] 1 [(0, t44)] (fun t45 w =>
  R t45 w) w) w) w) w) w) w) w)) w) w) w) w) w) w)
  (M.bin .eql t31 (Value.int IntKind.i64 21) (fun t47 w =>
  M.cond t47
  (M.fieldAddr 2 t3 (fun t48 w =>
  M.load1 t48 (fun t49 w =>
  M.call Try.prog 30 #[t49] (fun t50 w =>
  M.scat (Value.string { data := #[120] }) t50 (fun t51 w =>
  M.call Try.prog 53 #[t51] (fun t52 w =>
  M.buildSlice 63 2 #[.string ByteArray.empty, .int .i64 0] 1 [(0, t52)] (fun t53 w =>
  R t53 w) w) w) w) w) w) w)
  (M.share (fun K2 w =>
  M.bin .eql t31 (Value.int IntKind.i64 12) (fun t55 w =>
  M.cond t55
  (K2 [t55] w)
  (M.bin .eql t31 (Value.int IntKind.i64 13) (fun t56 w =>
  M.cond t56
  (K2 [t56] w)
  (M.bin .eql t31 (Value.int IntKind.i64 14) (fun t57 w =>
  K2 [t57] w) w)) w)) w) (fun s2 w => ∀ _ : List Value,
  M.cond (s2.getD 0 undef)
  (M.draw (fun w =>
  M.fieldAddr 0 t3 (fun t58 w =>
  M.load1 t58 (fun t59 w =>
  M.loadA 2 (s1.getD 0 undef) (fun t64 w =>
  M.loadA 2 t8 (fun t65 w =>
  M.loadA 2 (s1.getD 1 undef) (fun t66 w =>
  M.call Try.prog 55 #[t59] (fun t60 w =>
  ((M.loadA 2 (s1.getD 1 undef) (fun v' _ => v' = t66) w) ∧ ((M.loadA 2 t8 (fun v' _ => v' = t65) w) ∧ ((M.loadA 2 (s1.getD 0 undef) (fun v' _ => v' = t64) w) ∧ M.scat (Value.string { data := #[40, 105, 116, 101, 32, 40] }) t60 (fun t61 w =>
  M.scat t61 (Value.string { data := #[32] }) (fun t62 w =>
  M.call Try.prog 53 #[t62] (fun t63 w =>
  ((M.loadA 2 (s1.getD 1 undef) (fun v' _ => v' = t66) w) ∧ ((M.loadA 2 t8 (fun v' _ => v' = t65) w) ∧ ((M.loadA 2 (s1.getD 0 undef) (fun v' _ => v' = t64) w) ∧ M.call Try.prog 53 #[(Value.string { data := #[41, 32, 40, 95, 32, 98, 118, 49, 32, 49, 41, 32, 40, 95, 32, 98, 118, 48, 32, 49, 41, 41] })] (fun t67 w =>
  ((M.loadA 2 (s1.getD 1 undef) (fun v' _ => v' = t66) w) ∧ ((M.loadA 2 t8 (fun v' _ => v' = t65) w) ∧ ((M.loadA 2 (s1.getD 0 undef) (fun v' _ => v' = t64) w) ∧ M.buildSlice 63 2 #[.string ByteArray.empty, .int .i64 0] 5 [(0, t63), (1, t64), (2, t65), (3, t66), (4, t67)] (fun t68 w =>
  R t68 w) w)))) w)))) w) w) w)))) w) w) w) w) w) w) w)
  (M.share (fun K3 w =>
  M.bin .eql t31 (Value.int IntKind.i64 15) (fun t70 w =>
  M.cond t70
  (K3 [t70] w)
  (M.bin .eql t31 (Value.int IntKind.i64 16) (fun t71 w =>
  K3 [t71] w) w)) w) (fun s3 w => ∀ _ : List Value,
  M.cond (s3.getD 0 undef)
  (M.draw (fun w =>
  M.fieldAddr 0 t3 (fun t72 w =>
  M.load1 t72 (fun t73 w =>
  M.loadA 2 (s1.getD 0 undef) (fun t78 w =>
  M.loadA 2 t9 (fun t79 w =>
  M.call Try.prog 55 #[t73] (fun t74 w =>
  ((M.loadA 2 t9 (fun v' _ => v' = t79) w) ∧ ((M.loadA 2 (s1.getD 0 undef) (fun v' _ => v' = t78) w) ∧ M.scat (Value.string { data := #[40] }) t74 (fun t75 w =>
  M.scat t75 (Value.string { data := #[32] }) (fun t76 w =>
  M.call Try.prog 53 #[t76] (fun t77 w =>
  ((M.loadA 2 t9 (fun v' _ => v' = t79) w) ∧ ((M.loadA 2 (s1.getD 0 undef) (fun v' _ => v' = t78) w) ∧ M.buildSlice 63 2 #[.string ByteArray.empty, .int .i64 0] 3 [(0, t77), (1, t78), (2, t79)] (fun t80 w =>
  R t80 w) w))) w) w) w))) w) w) w) w) w) w)
  (M.bin .eql t31 (Value.int IntKind.i64 22) (fun t82 w =>
  M.cond t82
  (M.draw (fun w =>
  M.loadA 2 (s1.getD 0 undef) (fun t84 w =>
  M.loadA 2 (s1.getD 1 undef) (fun t86 w =>
  M.loadA 2 t8 (fun t87 w =>
  M.loadA 2 (s1.getD 2 undef) (fun t88 w =>
  M.loadA 2 t9 (fun t89 w =>
  M.call Try.prog 53 #[(Value.string { data := #[40, 105, 116, 101, 32, 40, 61, 32] })] (fun t83 w =>
  ((M.loadA 2 t9 (fun v' _ => v' = t89) w) ∧ ((M.loadA 2 (s1.getD 2 undef) (fun v' _ => v' = t88) w) ∧ ((M.loadA 2 t8 (fun v' _ => v' = t87) w) ∧ ((M.loadA 2 (s1.getD 1 undef) (fun v' _ => v' = t86) w) ∧ ((M.loadA 2 (s1.getD 0 undef) (fun v' _ => v' = t84) w) ∧ M.call Try.prog 53 #[(Value.string { data := #[32, 40, 95, 32, 98, 118, 49, 32, 49, 41, 41, 32] })] (fun t85 w =>
  ((M.loadA 2 t9 (fun v' _ => v' = t89) w) ∧ ((M.loadA 2 (s1.getD 2 undef) (fun v' _ => v' = t88) w) ∧ ((M.loadA 2 t8 (fun v' _ => v' = t87) w) ∧ ((M.loadA 2 (s1.getD 1 undef) (fun v' _ => v' = t86) w) ∧ ((M.loadA 2 (s1.getD 0 undef) (fun v' _ => v' = t84) w) ∧ M.buildSlice 63 2 #[.string ByteArray.empty, .int .i64 0] 7 [(0, t83), (1, t84), (2, t85), (3, t86), (4, t87), (5, t88), (6, t89)] (fun t90 w =>
  R t90 w) w)))))) w)))))) w) w) w) w) w) w) w)
  (M.bin .eql t31 (Value.int IntKind.i64 23) (fun t92 w =>
  M.cond t92
  (M.draw (fun w =>
  M.fieldAddr 3 t3 (fun t93 w =>
  M.load1 t93 (fun t94 w =>
  M.fieldAddr 1 t3 (fun t95 w =>
  M.load1 t95 (fun t96 w =>
  M.bin .add t94 t96 (fun t97 w =>
  M.bin .sub t97 (Value.int IntKind.i64 1) (fun t98 w =>
  M.fieldAddr 3 t3 (fun t102 w =>
  M.load1 t102 (fun t103 w =>
  M.loadA 2 (s1.getD 0 undef) (fun t108 w =>
  M.loadA 2 t9 (fun t109 w =>
  M.call Try.prog 30 #[t98] (fun t99 w =>
  ((M.loadA 2 t9 (fun v' _ => v' = t109) w) ∧ ((M.loadA 2 (s1.getD 0 undef) (fun v' _ => v' = t108) w) ∧ ((M.load1 t102 (fun v' _ => v' = t103) w) ∧ ((M.load1 t95 (fun v' _ => v' = t96) w) ∧ ((M.load1 t93 (fun v' _ => v' = t94) w) ∧ M.scat (Value.string { data := #[40, 40, 95, 32, 101, 120, 116, 114, 97, 99, 116, 32] }) t99 (fun t100 w =>
  M.scat t100 (Value.string { data := #[32] }) (fun t101 w =>
  M.call Try.prog 30 #[t103] (fun t104 w =>
  ((M.loadA 2 t9 (fun v' _ => v' = t109) w) ∧ ((M.loadA 2 (s1.getD 0 undef) (fun v' _ => v' = t108) w) ∧ ((M.load1 t95 (fun v' _ => v' = t96) w) ∧ ((M.load1 t93 (fun v' _ => v' = t94) w) ∧ M.scat t101 t104 (fun t105 w =>
  M.scat t105 (Value.string { data := #[41, 32] }) (fun t106 w =>
  M.call Try.prog 53 #[t106] (fun t107 w =>
  ((M.loadA 2 t9 (fun v' _ => v' = t109) w) ∧ ((M.loadA 2 (s1.getD 0 undef) (fun v' _ => v' = t108) w) ∧ ((M.load1 t95 (fun v' _ => v' = t96) w) ∧ ((M.load1 t93 (fun v' _ => v' = t94) w) ∧ M.buildSlice 63 2 #[.string ByteArray.empty, .int .i64 0] 3 [(0, t107), (1, t108), (2, t109)] (fun t110 w =>
  ((M.load1 t95 (fun v' _ => v' = t96) w) ∧ ((M.load1 t93 (fun v' _ => v' = t94) w) ∧ R t110 w))) w))))) w) w) w))))) w) w) w)))))) w) w) w) w) w) w) w) w) w) w) w) w)
  (M.bin .eql t31 (Value.int IntKind.i64 25) (fun t112 w =>
  M.cond t112
  (M.draw (fun w =>
  M.scat (Value.string { data := #[40, 40, 95, 32, 122, 101, 114, 111, 95, 101, 120, 116, 101, 110, 100, 32] }) t29 (fun t114 w =>
  M.scat t114 (Value.string { data := #[41, 32] }) (fun t115 w =>
  M.loadA 2 (s1.getD 0 undef) (fun t117 w =>
  M.loadA 2 t9 (fun t118 w =>
  M.call Try.prog 53 #[t115] (fun t116 w =>
  ((M.loadA 2 t9 (fun v' _ => v' = t118) w) ∧ ((M.loadA 2 (s1.getD 0 undef) (fun v' _ => v' = t117) w) ∧ M.buildSlice 63 2 #[.string ByteArray.empty, .int .i64 0] 3 [(0, t116), (1, t117), (2, t118)] (fun t119 w =>
  R t119 w) w))) w) w) w) w) w) w)
  (M.bin .eql t31 (Value.int IntKind.i64 26) (fun t121 w =>
  M.cond t121
  (M.draw (fun w =>
  M.scat (Value.string { data := #[40, 40, 95, 32, 115, 105, 103, 110, 95, 101, 120, 116, 101, 110, 100, 32] }) t29 (fun t123 w =>
  M.scat t123 (Value.string { data := #[41, 32] }) (fun t124 w =>
  M.loadA 2 (s1.getD 0 undef) (fun t126 w =>
  M.loadA 2 t9 (fun t127 w =>
  M.call Try.prog 53 #[t124] (fun t125 w =>
  ((M.loadA 2 t9 (fun v' _ => v' = t127) w) ∧ ((M.loadA 2 (s1.getD 0 undef) (fun v' _ => v' = t126) w) ∧ M.buildSlice 63 2 #[.string ByteArray.empty, .int .i64 0] 3 [(0, t125), (1, t126), (2, t127)] (fun t128 w =>
  R t128 w) w))) w) w) w) w) w) w)
  (M.draw (fun w =>
  M.fieldAddr 0 t3 (fun t129 w =>
  M.load1 t129 (fun t130 w =>
  M.loadA 2 (s1.getD 0 undef) (fun t135 w =>
  M.loadA 2 t8 (fun t136 w =>
  M.loadA 2 (s1.getD 1 undef) (fun t137 w =>
  M.loadA 2 t9 (fun t138 w =>
  M.call Try.prog 55 #[t130] (fun t131 w =>
  ((M.loadA 2 t9 (fun v' _ => v' = t138) w) ∧ ((M.loadA 2 (s1.getD 1 undef) (fun v' _ => v' = t137) w) ∧ ((M.loadA 2 t8 (fun v' _ => v' = t136) w) ∧ ((M.loadA 2 (s1.getD 0 undef) (fun v' _ => v' = t135) w) ∧ M.scat (Value.string { data := #[40] }) t131 (fun t132 w =>
  M.scat t132 (Value.string { data := #[32] }) (fun t133 w =>
  M.call Try.prog 53 #[t133] (fun t134 w =>
  ((M.loadA 2 t9 (fun v' _ => v' = t138) w) ∧ ((M.loadA 2 (s1.getD 1 undef) (fun v' _ => v' = t137) w) ∧ ((M.loadA 2 t8 (fun v' _ => v' = t136) w) ∧ ((M.loadA 2 (s1.getD 0 undef) (fun v' _ => v' = t135) w) ∧ M.buildSlice 63 2 #[.string ByteArray.empty, .int .i64 0] 5 [(0, t134), (1, t135), (2, t136), (3, t137), (4, t138)] (fun t139 w =>
  R t139 w) w))))) w) w) w))))) w) w) w) w) w) w) w) w)) w)) w)) w)) w)) w)) w)) w)) w) w) w)) w) w)) w) w) w) w) w) w) w) w) w) w) w) w) w) w
theorem ok23 (x0 x1 : Value) (R : Kt) (w : World) (h : sh23 x0 x1 R w) : Ret Try.prog 23 #[x0, x1] w R :=
  ret_mk <| calls_of_comp mixed (c := Try.f23.body.getD .skip) (args := [x0, x1]) (rs := [(ResultVar.tmp 4)]) (Ann.seq Ann.text (Ann.join [5, 6, 7] [11, 12, 13, 14, 15, 16, 17, 18, 19] (Ann.draw (Sch.take 0 (Sch.take 1 (Sch.take 2 (Sch.take 3 (Sch.take 4 (Sch.take 5 (Sch.take 6 (Sch.take 7 (Sch.take 8 (Sch.three 9 10 11 (Sch.two 10 11 (Sch.one 11 (Sch.one 12 (Sch.one 13 (Sch.one 14 Sch.done)))) (Sch.one 10 (Sch.one 12 (Sch.one 13 (Sch.one 14 Sch.done))))) (Sch.two 9 11 (Sch.one 11 (Sch.one 12 (Sch.one 13 (Sch.one 14 Sch.done)))) (Sch.one 9 (Sch.one 12 (Sch.one 13 (Sch.one 14 Sch.done))))) (Sch.two 9 10 (Sch.one 10 (Sch.one 12 (Sch.one 13 (Sch.one 14 Sch.done)))) (Sch.one 9 (Sch.one 12 (Sch.one 13 (Sch.one 14 Sch.done)))))))))))))))) (Ann.seq Ann.text (Ann.seq (Ann.draw (Sch.take 0 (Sch.take 1 (Sch.take 2 (Sch.take 3 (Sch.take 4 (Sch.one 5 (Sch.take 6 (Sch.one 7 (Sch.take 8 Sch.done)))))))))) (Ann.seq (Ann.seq Ann.text (Ann.block (Ann.seq Ann.text (Ann.cond (Ann.seq (Ann.draw (Sch.take 0 (Sch.take 1 (Sch.take 5 (Sch.take 6 (Sch.one 2 (Sch.take 3 (Sch.take 4 (Sch.one 7 (Sch.take 8 (Sch.take 9 (Sch.one 10 (Sch.one 11 (Sch.take 12 Sch.done)))))))))))))) Ann.leaf) (Ann.seq Ann.text (Ann.cond (Ann.seq Ann.text Ann.leaf) (Ann.join [54] [55, 56, 57] (Ann.seq Ann.text (Ann.cond Ann.leaf (Ann.seq Ann.text (Ann.cond Ann.leaf Ann.text)))) (Ann.cond (Ann.seq (Ann.draw (Sch.take 0 (Sch.take 1 (Sch.take 6 (Sch.take 7 (Sch.take 8 (Sch.one 2 (Sch.take 3 (Sch.take 4 (Sch.one 5 (Sch.one 9 (Sch.one 10 (Sch.take 11 Sch.done))))))))))))) Ann.leaf) (Ann.join [69] [70, 71] (Ann.seq Ann.text (Ann.cond Ann.leaf Ann.text)) (Ann.cond (Ann.seq (Ann.draw (Sch.take 0 (Sch.take 1 (Sch.take 6 (Sch.take 7 (Sch.one 2 (Sch.take 3 (Sch.take 4 (Sch.one 5 (Sch.one 8 (Sch.take 9 Sch.done))))))))))) Ann.leaf) (Ann.seq Ann.text (Ann.cond (Ann.seq (Ann.draw (Sch.take 1 (Sch.take 3 (Sch.take 4 (Sch.take 5 (Sch.take 6 (Sch.one 0 (Sch.one 2 (Sch.one 7 (Sch.take 8 Sch.done)))))))))) Ann.leaf) (Ann.seq Ann.text (Ann.cond (Ann.seq (Ann.draw (Sch.take 0 (Sch.take 1 (Sch.take 2 (Sch.take 3 (Sch.take 4 (Sch.take 5 (Sch.take 9 (Sch.take 10 (Sch.take 15 (Sch.take 16 (Sch.one 6 (Sch.take 7 (Sch.take 8 (Sch.one 11 (Sch.take 12 (Sch.take 13 (Sch.one 14 (Sch.one 17 (Sch.take 18 Sch.done)))))))))))))))))))) Ann.leaf) (Ann.seq Ann.text (Ann.cond (Ann.seq (Ann.draw (Sch.take 0 (Sch.take 1 (Sch.take 2 (Sch.take 4 (Sch.take 5 (Sch.one 3 (Sch.one 6 (Sch.take 7 Sch.done))))))))) Ann.leaf) (Ann.seq Ann.text (Ann.cond (Ann.seq (Ann.draw (Sch.take 0 (Sch.take 1 (Sch.take 2 (Sch.take 4 (Sch.take 5 (Sch.one 3 (Sch.one 6 (Sch.take 7 Sch.done))))))))) Ann.leaf) Ann.leaf)))))))))))))))))) (Ann.seq (Ann.draw (Sch.take 0 (Sch.take 1 (Sch.take 6 (Sch.take 7 (Sch.take 8 (Sch.take 9 (Sch.one 2 (Sch.take 3 (Sch.take 4 (Sch.one 5 (Sch.one 10 (Sch.take 11 Sch.done))))))))))))) Ann.leaf))))))
    Try.func23 (by kernel_rfl) (by kernel_rfl)
    (Eq.mp (by kernel_rfl) h)

theorem blkKeep1 {w w' : World} {b c : Nat} {l : List Value} (h : Blk w b l) (k : Keep w w' (· = c)) (hne : b ≠ c) : Blk w' b l := h.keep k hne
theorem keepTrans1 {w w1 w2 : World} {c : Nat} (q : Keep w w1 No) (k : Keep w1 w2 (· = c)) (h : w.heap.size ≤ c) : Keep w w2 No := q.trans k (fun j hj e => by have e : j = c := e; omega)
theorem pcone (a : Bt) (i : Int) : ∀ v ∈ [vs a, vi i], v.oneCell' = true := by
  simp only [List.mem_cons, List.not_mem_nil, or_false, forall_eq_or_imp, forall_eq]; exact ⟨rfl, rfl⟩
theorem op_len (op : Int) : (opB op).length ≤ 6 := by
  unfold opB
  split
  · decide
  · rw [List.getD_eq_getElem?_getD]
    have key : ∀ l : List Bt, (∀ b ∈ l, b.length ≤ 6) → ∀ i : Nat, (l[i]?.getD []).length ≤ 6 := fun l hl i => by
      cases h : l[i]? with
      | none => simp
      | some b => exact hl b (List.mem_of_getElem? h)
    exact key _ (by decide) _
theorem num_len (n : Int) : (numB n).length ≤ 20 := digB_len 19 _ (by have := (BitVec.ofInt 64 n).isLt; omega)
theorem val_len (x : W64) : (digB x.toNat).length ≤ 20 := digB_len 19 _ (by have := x.isLt; omega)
set_option maxHeartbeats 16000000 in
theorem pieces_ret {w : World} {F : Nat → Prop} {p : Nat} {N NN : List Nd} {most : Int} {n : Nd} (hd : DagO w F p N most) (hn : goodN NN n) :
    Ret Try.prog 23 #[ptr p, encN n] w (fun r w' => ∃ b, r = .slice (some ⟨b, 0, none⟩) (pcsN N n).length (pcsN N n).length ∧ Blk w' b ((pcsN N n).flatMap Pc.cells) ∧ w.heap.size ≤ b ∧ Keep w w' No) := by
  obtain ⟨⟨hw1, hw2⟩, hkd, hcs⟩ := hn
  have hwd : 0 ≤ wdN N n.a ∧ wdN N n.a ≤ 64 := by
    cases h : isN N n.a with
    | true => have := hd.good.wd h; omega
    | false => rw [wdN_none h]; omega
  have ho := op_len n.op
  have hn1 := num_len n.wd
  have hn2 := num_len n.a
  have hn3 := num_len n.b
  have hn4 := num_len (n.wd - wdN N n.a)
  have hn5 := num_len (n.b + n.wd - 1)
  have hn6 := val_len n.val
  have hop : (1 ≤ n.op ∧ n.op ≤ 16) ∨ (20 ≤ n.op ∧ n.op ≤ 26) := by
    rcases hcs with h | h | h | h | h | h | h | h <;> omega
  have hb23 : n.op = 23 → 0 ≤ n.b ∧ n.b ≤ 64 := fun h => by
    rcases hcs with h | h | h | h | h | h | h | h <;> omega
  clear hcs hkd
  refine ok23 _ _ _ _ ?_
  unfold sh23
  refine M.new_i (l := n.cells) (fun w0 c0 q s0 => ?_)
  have c0 : Blk w0 w.heap.size [vi n.op, vi n.wd, vi n.a, vi n.b, vi n.c, vw n.val] := c0
  have z0 := q.size
  refine M.share_j (fun vals w' => ∃ pa pb pc, vals = [ptr pa, ptr pb, ptr pc] ∧ Blk w' w.heap.size [vi n.op, vi n.wd, vi n.a, vi n.b, vi n.c, vw n.val] ∧ Blk w' pa [vs [], vi n.a] ∧ Blk w' pb [vs [], vi n.b] ∧ Blk w' pc [vs [], vi n.c] ∧ Keep w w' No) ?_ ?_
  case refine_2 =>
    intro K1 hK1
    have k1 := Keep.drew w0 No
    have z1 := k1.size
    refine M.draw_i ?_
    have c0 := c0.keep k1 (fun h => h)
    have q := q.trans k1 (fun _ _ h => h)
    (repeat (first|refine ja ?_|refine jb ?_|refine jc ?_|refine jd ?_|refine je ?_|refine jf ?_|refine jg ?_|refine jh ?_|refine ji ?_|refine jj ?_|refine jk ?_|refine jl ?_|refine jm ?_|refine jn ?_|refine jo ?_|refine jp ?_|refine jq ?_|refine jr ?_|refine js ?_|refine jt ?_|refine ju ?_|refine jv ?_|refine jw ?_|refine jx ?_|refine jy ?_|refine jz ?_|refine jA ?_|refine jB ?_|refine jC ?_|refine jD ?_|refine jE ?_|refine jF ?_|refine jG ?_|refine jH ?_|refine jI ?_|refine jJ ?_|refine jK ?_|refine jL ?_|refine jM (by assumption) ?_|refine jN (by assumption) rfl ?_|refine jO (by assumption) ?_|refine jP (by assumption) rfl ?_|refine jQ ?_|refine jR ?_|refine jS ?_|refine jT ?_|refine jU (by assumption) rfl ?_))
    refine M.pure_i (.agg ⟨[vs [], vi n.a]⟩) (fun _ => by kernel_rfl) ?_
    (repeat (first|refine ja ?_|refine jb ?_|refine jc ?_|refine jd ?_|refine je ?_|refine jf ?_|refine jg ?_|refine jh ?_|refine ji ?_|refine jj ?_|refine jk ?_|refine jl ?_|refine jm ?_|refine jn ?_|refine jo ?_|refine jp ?_|refine jq ?_|refine jr ?_|refine js ?_|refine jt ?_|refine ju ?_|refine jv ?_|refine jw ?_|refine jx ?_|refine jy ?_|refine jz ?_|refine jA ?_|refine jB ?_|refine jC ?_|refine jD ?_|refine jE ?_|refine jF ?_|refine jG ?_|refine jH ?_|refine jI ?_|refine jJ ?_|refine jK ?_|refine jL ?_|refine jM (by assumption) ?_|refine jN (by assumption) rfl ?_|refine jO (by assumption) ?_|refine jP (by assumption) rfl ?_|refine jQ ?_|refine jR ?_|refine jS ?_|refine jT ?_|refine jU (by assumption) rfl ?_))
    refine M.pure_i (.agg ⟨[vs [], vi n.b]⟩) (fun _ => by kernel_rfl) ?_
    (repeat (first|refine ja ?_|refine jb ?_|refine jc ?_|refine jd ?_|refine je ?_|refine jf ?_|refine jg ?_|refine jh ?_|refine ji ?_|refine jj ?_|refine jk ?_|refine jl ?_|refine jm ?_|refine jn ?_|refine jo ?_|refine jp ?_|refine jq ?_|refine jr ?_|refine js ?_|refine jt ?_|refine ju ?_|refine jv ?_|refine jw ?_|refine jx ?_|refine jy ?_|refine jz ?_|refine jA ?_|refine jB ?_|refine jC ?_|refine jD ?_|refine jE ?_|refine jF ?_|refine jG ?_|refine jH ?_|refine jI ?_|refine jJ ?_|refine jK ?_|refine jL ?_|refine jM (by assumption) ?_|refine jN (by assumption) rfl ?_|refine jO (by assumption) ?_|refine jP (by assumption) rfl ?_|refine jQ ?_|refine jR ?_|refine jS ?_|refine jT ?_|refine jU (by assumption) rfl ?_))
    refine M.pure_i (.agg ⟨[vs [], vi n.c]⟩) (fun _ => by kernel_rfl) ?_
    (repeat (first|refine ja ?_|refine jb ?_|refine jc ?_|refine jd ?_|refine je ?_|refine jf ?_|refine jg ?_|refine jh ?_|refine ji ?_|refine jj ?_|refine jk ?_|refine jl ?_|refine jm ?_|refine jn ?_|refine jo ?_|refine jp ?_|refine jq ?_|refine jr ?_|refine js ?_|refine jt ?_|refine ju ?_|refine jv ?_|refine jw ?_|refine jx ?_|refine jy ?_|refine jz ?_|refine jA ?_|refine jB ?_|refine jC ?_|refine jD ?_|refine jE ?_|refine jF ?_|refine jG ?_|refine jH ?_|refine jI ?_|refine jJ ?_|refine jK ?_|refine jL ?_|refine jM (by assumption) ?_|refine jN (by assumption) rfl ?_|refine jO (by assumption) ?_|refine jP (by assumption) rfl ?_|refine jQ ?_|refine jR ?_|refine jS ?_|refine jT ?_|refine jU (by assumption) rfl ?_))
    refine ⟨?_, ?_, ?_⟩
    ·
      refine M.new_i (l := [vs [], vi 0]) (fun w2 ca k2 s2 => ?_)
      have c0 := c0.keep k2 (fun h => h)
      have q := q.trans k2 (fun _ _ h => h)
      have z2 := k2.size
      (repeat (first|refine ja ?_|refine jb ?_|refine jc ?_|refine jd ?_|refine je ?_|refine jf ?_|refine jg ?_|refine jh ?_|refine ji ?_|refine jj ?_|refine jk ?_|refine jl ?_|refine jm ?_|refine jn ?_|refine jo ?_|refine jp ?_|refine jq ?_|refine jr ?_|refine js ?_|refine jt ?_|refine ju ?_|refine jv ?_|refine jw ?_|refine jx ?_|refine jy ?_|refine jz ?_|refine jA ?_|refine jB ?_|refine jC ?_|refine jD ?_|refine jE ?_|refine jF ?_|refine jG ?_|refine jH ?_|refine jI ?_|refine jJ ?_|refine jK ?_|refine jL ?_|refine jM (by assumption) ?_|refine jN (by assumption) rfl ?_|refine jO (by assumption) ?_|refine jP (by assumption) rfl ?_|refine jQ ?_|refine jR ?_|refine jS ?_|refine jT ?_|refine jU (by assumption) rfl ?_))
      refine ⟨?_, ?_⟩
      ·
        refine M.new_i (l := [vs [], vi 0]) (fun w3 cb k3 s3 => ?_)
        have c0 := c0.keep k3 (fun h => h)
        have ca := ca.keep k3 (fun h => h)
        have q := q.trans k3 (fun _ _ h => h)
        have z3 := k3.size
        (repeat (first|refine ja ?_|refine jb ?_|refine jc ?_|refine jd ?_|refine je ?_|refine jf ?_|refine jg ?_|refine jh ?_|refine ji ?_|refine jj ?_|refine jk ?_|refine jl ?_|refine jm ?_|refine jn ?_|refine jo ?_|refine jp ?_|refine jq ?_|refine jr ?_|refine js ?_|refine jt ?_|refine ju ?_|refine jv ?_|refine jw ?_|refine jx ?_|refine jy ?_|refine jz ?_|refine jA ?_|refine jB ?_|refine jC ?_|refine jD ?_|refine jE ?_|refine jF ?_|refine jG ?_|refine jH ?_|refine jI ?_|refine jJ ?_|refine jK ?_|refine jL ?_|refine jM (by assumption) ?_|refine jN (by assumption) rfl ?_|refine jO (by assumption) ?_|refine jP (by assumption) rfl ?_|refine jQ ?_|refine jR ?_|refine jS ?_|refine jT ?_|refine jU (by assumption) rfl ?_))
        refine M.new_i (l := [vs [], vi 0]) (fun w4 cc k4 s4 => ?_)
        have c0 := c0.keep k4 (fun h => h)
        have ca := ca.keep k4 (fun h => h)
        have cb := cb.keep k4 (fun h => h)
        have q := q.trans k4 (fun _ _ h => h)
        have z4 := k4.size
        (repeat (first|refine ja ?_|refine jb ?_|refine jc ?_|refine jd ?_|refine je ?_|refine jf ?_|refine jg ?_|refine jh ?_|refine ji ?_|refine jj ?_|refine jk ?_|refine jl ?_|refine jm ?_|refine jn ?_|refine jo ?_|refine jp ?_|refine jq ?_|refine jr ?_|refine js ?_|refine jt ?_|refine ju ?_|refine jv ?_|refine jw ?_|refine jx ?_|refine jy ?_|refine jz ?_|refine jA ?_|refine jB ?_|refine jC ?_|refine jD ?_|refine jE ?_|refine jF ?_|refine jG ?_|refine jH ?_|refine jI ?_|refine jJ ?_|refine jK ?_|refine jL ?_|refine jM (by assumption) ?_|refine jN (by assumption) rfl ?_|refine jO (by assumption) ?_|refine jP (by assumption) rfl ?_|refine jQ ?_|refine jR ?_|refine jS ?_|refine jT ?_|refine jU (by assumption) rfl ?_))
        refine M.storeAll_i (vs := [vs [], vi n.a]) ca rfl rfl (pcone _ _) (fun w5 d5 k5 s5 => ?_)
        have c0 := blkKeep1 c0 k5 (by omega)
        have cb := blkKeep1 cb k5 (by omega)
        have cc := blkKeep1 cc k5 (by omega)
        have ca := d5
        have q := keepTrans1 q k5 (by omega)
        have z5 := k5.size
        (repeat (first|refine ja ?_|refine jb ?_|refine jc ?_|refine jd ?_|refine je ?_|refine jf ?_|refine jg ?_|refine jh ?_|refine ji ?_|refine jj ?_|refine jk ?_|refine jl ?_|refine jm ?_|refine jn ?_|refine jo ?_|refine jp ?_|refine jq ?_|refine jr ?_|refine js ?_|refine jt ?_|refine ju ?_|refine jv ?_|refine jw ?_|refine jx ?_|refine jy ?_|refine jz ?_|refine jA ?_|refine jB ?_|refine jC ?_|refine jD ?_|refine jE ?_|refine jF ?_|refine jG ?_|refine jH ?_|refine jI ?_|refine jJ ?_|refine jK ?_|refine jL ?_|refine jM (by assumption) ?_|refine jN (by assumption) rfl ?_|refine jO (by assumption) ?_|refine jP (by assumption) rfl ?_|refine jQ ?_|refine jR ?_|refine jS ?_|refine jT ?_|refine jU (by assumption) rfl ?_))
        refine M.storeAll_i (vs := [vs [], vi n.b]) cb rfl rfl (pcone _ _) (fun w6 d6 k6 s6 => ?_)
        have c0 := blkKeep1 c0 k6 (by omega)
        have ca := blkKeep1 ca k6 (by omega)
        have cc := blkKeep1 cc k6 (by omega)
        have cb := d6
        have q := keepTrans1 q k6 (by omega)
        have z6 := k6.size
        (repeat (first|refine ja ?_|refine jb ?_|refine jc ?_|refine jd ?_|refine je ?_|refine jf ?_|refine jg ?_|refine jh ?_|refine ji ?_|refine jj ?_|refine jk ?_|refine jl ?_|refine jm ?_|refine jn ?_|refine jo ?_|refine jp ?_|refine jq ?_|refine jr ?_|refine js ?_|refine jt ?_|refine ju ?_|refine jv ?_|refine jw ?_|refine jx ?_|refine jy ?_|refine jz ?_|refine jA ?_|refine jB ?_|refine jC ?_|refine jD ?_|refine jE ?_|refine jF ?_|refine jG ?_|refine jH ?_|refine jI ?_|refine jJ ?_|refine jK ?_|refine jL ?_|refine jM (by assumption) ?_|refine jN (by assumption) rfl ?_|refine jO (by assumption) ?_|refine jP (by assumption) rfl ?_|refine jQ ?_|refine jR ?_|refine jS ?_|refine jT ?_|refine jU (by assumption) rfl ?_))
        refine M.storeAll_i (vs := [vs [], vi n.c]) cc rfl rfl (pcone _ _) (fun w7 d7 k7 s7 => ?_)
        have c0 := blkKeep1 c0 k7 (by omega)
        have ca := blkKeep1 ca k7 (by omega)
        have cb := blkKeep1 cb k7 (by omega)
        have cc := d7
        have q := keepTrans1 q k7 (by omega)
        have z7 := k7.size
        (repeat (first|refine ja ?_|refine jb ?_|refine jc ?_|refine jd ?_|refine je ?_|refine jf ?_|refine jg ?_|refine jh ?_|refine ji ?_|refine jj ?_|refine jk ?_|refine jl ?_|refine jm ?_|refine jn ?_|refine jo ?_|refine jp ?_|refine jq ?_|refine jr ?_|refine js ?_|refine jt ?_|refine ju ?_|refine jv ?_|refine jw ?_|refine jx ?_|refine jy ?_|refine jz ?_|refine jA ?_|refine jB ?_|refine jC ?_|refine jD ?_|refine jE ?_|refine jF ?_|refine jG ?_|refine jH ?_|refine jI ?_|refine jJ ?_|refine jK ?_|refine jL ?_|refine jM (by assumption) ?_|refine jN (by assumption) rfl ?_|refine jO (by assumption) ?_|refine jP (by assumption) rfl ?_|refine jQ ?_|refine jR ?_|refine jS ?_|refine jT ?_|refine jU (by assumption) rfl ?_))
        exact hK1 _ _ ⟨_, _, _, rfl, c0, ca, cb, cc, q⟩
      ·
        refine M.new_i (l := [vs [], vi 0]) (fun w3 cc k3 s3 => ?_)
        have c0 := c0.keep k3 (fun h => h)
        have ca := ca.keep k3 (fun h => h)
        have q := q.trans k3 (fun _ _ h => h)
        have z3 := k3.size
        (repeat (first|refine ja ?_|refine jb ?_|refine jc ?_|refine jd ?_|refine je ?_|refine jf ?_|refine jg ?_|refine jh ?_|refine ji ?_|refine jj ?_|refine jk ?_|refine jl ?_|refine jm ?_|refine jn ?_|refine jo ?_|refine jp ?_|refine jq ?_|refine jr ?_|refine js ?_|refine jt ?_|refine ju ?_|refine jv ?_|refine jw ?_|refine jx ?_|refine jy ?_|refine jz ?_|refine jA ?_|refine jB ?_|refine jC ?_|refine jD ?_|refine jE ?_|refine jF ?_|refine jG ?_|refine jH ?_|refine jI ?_|refine jJ ?_|refine jK ?_|refine jL ?_|refine jM (by assumption) ?_|refine jN (by assumption) rfl ?_|refine jO (by assumption) ?_|refine jP (by assumption) rfl ?_|refine jQ ?_|refine jR ?_|refine jS ?_|refine jT ?_|refine jU (by assumption) rfl ?_))
        refine M.new_i (l := [vs [], vi 0]) (fun w4 cb k4 s4 => ?_)
        have c0 := c0.keep k4 (fun h => h)
        have ca := ca.keep k4 (fun h => h)
        have cc := cc.keep k4 (fun h => h)
        have q := q.trans k4 (fun _ _ h => h)
        have z4 := k4.size
        (repeat (first|refine ja ?_|refine jb ?_|refine jc ?_|refine jd ?_|refine je ?_|refine jf ?_|refine jg ?_|refine jh ?_|refine ji ?_|refine jj ?_|refine jk ?_|refine jl ?_|refine jm ?_|refine jn ?_|refine jo ?_|refine jp ?_|refine jq ?_|refine jr ?_|refine js ?_|refine jt ?_|refine ju ?_|refine jv ?_|refine jw ?_|refine jx ?_|refine jy ?_|refine jz ?_|refine jA ?_|refine jB ?_|refine jC ?_|refine jD ?_|refine jE ?_|refine jF ?_|refine jG ?_|refine jH ?_|refine jI ?_|refine jJ ?_|refine jK ?_|refine jL ?_|refine jM (by assumption) ?_|refine jN (by assumption) rfl ?_|refine jO (by assumption) ?_|refine jP (by assumption) rfl ?_|refine jQ ?_|refine jR ?_|refine jS ?_|refine jT ?_|refine jU (by assumption) rfl ?_))
        refine M.storeAll_i (vs := [vs [], vi n.a]) ca rfl rfl (pcone _ _) (fun w5 d5 k5 s5 => ?_)
        have c0 := blkKeep1 c0 k5 (by omega)
        have cc := blkKeep1 cc k5 (by omega)
        have cb := blkKeep1 cb k5 (by omega)
        have ca := d5
        have q := keepTrans1 q k5 (by omega)
        have z5 := k5.size
        (repeat (first|refine ja ?_|refine jb ?_|refine jc ?_|refine jd ?_|refine je ?_|refine jf ?_|refine jg ?_|refine jh ?_|refine ji ?_|refine jj ?_|refine jk ?_|refine jl ?_|refine jm ?_|refine jn ?_|refine jo ?_|refine jp ?_|refine jq ?_|refine jr ?_|refine js ?_|refine jt ?_|refine ju ?_|refine jv ?_|refine jw ?_|refine jx ?_|refine jy ?_|refine jz ?_|refine jA ?_|refine jB ?_|refine jC ?_|refine jD ?_|refine jE ?_|refine jF ?_|refine jG ?_|refine jH ?_|refine jI ?_|refine jJ ?_|refine jK ?_|refine jL ?_|refine jM (by assumption) ?_|refine jN (by assumption) rfl ?_|refine jO (by assumption) ?_|refine jP (by assumption) rfl ?_|refine jQ ?_|refine jR ?_|refine jS ?_|refine jT ?_|refine jU (by assumption) rfl ?_))
        refine M.storeAll_i (vs := [vs [], vi n.b]) cb rfl rfl (pcone _ _) (fun w6 d6 k6 s6 => ?_)
        have c0 := blkKeep1 c0 k6 (by omega)
        have ca := blkKeep1 ca k6 (by omega)
        have cc := blkKeep1 cc k6 (by omega)
        have cb := d6
        have q := keepTrans1 q k6 (by omega)
        have z6 := k6.size
        (repeat (first|refine ja ?_|refine jb ?_|refine jc ?_|refine jd ?_|refine je ?_|refine jf ?_|refine jg ?_|refine jh ?_|refine ji ?_|refine jj ?_|refine jk ?_|refine jl ?_|refine jm ?_|refine jn ?_|refine jo ?_|refine jp ?_|refine jq ?_|refine jr ?_|refine js ?_|refine jt ?_|refine ju ?_|refine jv ?_|refine jw ?_|refine jx ?_|refine jy ?_|refine jz ?_|refine jA ?_|refine jB ?_|refine jC ?_|refine jD ?_|refine jE ?_|refine jF ?_|refine jG ?_|refine jH ?_|refine jI ?_|refine jJ ?_|refine jK ?_|refine jL ?_|refine jM (by assumption) ?_|refine jN (by assumption) rfl ?_|refine jO (by assumption) ?_|refine jP (by assumption) rfl ?_|refine jQ ?_|refine jR ?_|refine jS ?_|refine jT ?_|refine jU (by assumption) rfl ?_))
        refine M.storeAll_i (vs := [vs [], vi n.c]) cc rfl rfl (pcone _ _) (fun w7 d7 k7 s7 => ?_)
        have c0 := blkKeep1 c0 k7 (by omega)
        have ca := blkKeep1 ca k7 (by omega)
        have cb := blkKeep1 cb k7 (by omega)
        have cc := d7
        have q := keepTrans1 q k7 (by omega)
        have z7 := k7.size
        (repeat (first|refine ja ?_|refine jb ?_|refine jc ?_|refine jd ?_|refine je ?_|refine jf ?_|refine jg ?_|refine jh ?_|refine ji ?_|refine jj ?_|refine jk ?_|refine jl ?_|refine jm ?_|refine jn ?_|refine jo ?_|refine jp ?_|refine jq ?_|refine jr ?_|refine js ?_|refine jt ?_|refine ju ?_|refine jv ?_|refine jw ?_|refine jx ?_|refine jy ?_|refine jz ?_|refine jA ?_|refine jB ?_|refine jC ?_|refine jD ?_|refine jE ?_|refine jF ?_|refine jG ?_|refine jH ?_|refine jI ?_|refine jJ ?_|refine jK ?_|refine jL ?_|refine jM (by assumption) ?_|refine jN (by assumption) rfl ?_|refine jO (by assumption) ?_|refine jP (by assumption) rfl ?_|refine jQ ?_|refine jR ?_|refine jS ?_|refine jT ?_|refine jU (by assumption) rfl ?_))
        exact hK1 _ _ ⟨_, _, _, rfl, c0, ca, cb, cc, q⟩
    ·
      refine M.new_i (l := [vs [], vi 0]) (fun w2 cb k2 s2 => ?_)
      have c0 := c0.keep k2 (fun h => h)
      have q := q.trans k2 (fun _ _ h => h)
      have z2 := k2.size
      (repeat (first|refine ja ?_|refine jb ?_|refine jc ?_|refine jd ?_|refine je ?_|refine jf ?_|refine jg ?_|refine jh ?_|refine ji ?_|refine jj ?_|refine jk ?_|refine jl ?_|refine jm ?_|refine jn ?_|refine jo ?_|refine jp ?_|refine jq ?_|refine jr ?_|refine js ?_|refine jt ?_|refine ju ?_|refine jv ?_|refine jw ?_|refine jx ?_|refine jy ?_|refine jz ?_|refine jA ?_|refine jB ?_|refine jC ?_|refine jD ?_|refine jE ?_|refine jF ?_|refine jG ?_|refine jH ?_|refine jI ?_|refine jJ ?_|refine jK ?_|refine jL ?_|refine jM (by assumption) ?_|refine jN (by assumption) rfl ?_|refine jO (by assumption) ?_|refine jP (by assumption) rfl ?_|refine jQ ?_|refine jR ?_|refine jS ?_|refine jT ?_|refine jU (by assumption) rfl ?_))
      refine ⟨?_, ?_⟩
      ·
        refine M.new_i (l := [vs [], vi 0]) (fun w3 ca k3 s3 => ?_)
        have c0 := c0.keep k3 (fun h => h)
        have cb := cb.keep k3 (fun h => h)
        have q := q.trans k3 (fun _ _ h => h)
        have z3 := k3.size
        (repeat (first|refine ja ?_|refine jb ?_|refine jc ?_|refine jd ?_|refine je ?_|refine jf ?_|refine jg ?_|refine jh ?_|refine ji ?_|refine jj ?_|refine jk ?_|refine jl ?_|refine jm ?_|refine jn ?_|refine jo ?_|refine jp ?_|refine jq ?_|refine jr ?_|refine js ?_|refine jt ?_|refine ju ?_|refine jv ?_|refine jw ?_|refine jx ?_|refine jy ?_|refine jz ?_|refine jA ?_|refine jB ?_|refine jC ?_|refine jD ?_|refine jE ?_|refine jF ?_|refine jG ?_|refine jH ?_|refine jI ?_|refine jJ ?_|refine jK ?_|refine jL ?_|refine jM (by assumption) ?_|refine jN (by assumption) rfl ?_|refine jO (by assumption) ?_|refine jP (by assumption) rfl ?_|refine jQ ?_|refine jR ?_|refine jS ?_|refine jT ?_|refine jU (by assumption) rfl ?_))
        refine M.new_i (l := [vs [], vi 0]) (fun w4 cc k4 s4 => ?_)
        have c0 := c0.keep k4 (fun h => h)
        have cb := cb.keep k4 (fun h => h)
        have ca := ca.keep k4 (fun h => h)
        have q := q.trans k4 (fun _ _ h => h)
        have z4 := k4.size
        (repeat (first|refine ja ?_|refine jb ?_|refine jc ?_|refine jd ?_|refine je ?_|refine jf ?_|refine jg ?_|refine jh ?_|refine ji ?_|refine jj ?_|refine jk ?_|refine jl ?_|refine jm ?_|refine jn ?_|refine jo ?_|refine jp ?_|refine jq ?_|refine jr ?_|refine js ?_|refine jt ?_|refine ju ?_|refine jv ?_|refine jw ?_|refine jx ?_|refine jy ?_|refine jz ?_|refine jA ?_|refine jB ?_|refine jC ?_|refine jD ?_|refine jE ?_|refine jF ?_|refine jG ?_|refine jH ?_|refine jI ?_|refine jJ ?_|refine jK ?_|refine jL ?_|refine jM (by assumption) ?_|refine jN (by assumption) rfl ?_|refine jO (by assumption) ?_|refine jP (by assumption) rfl ?_|refine jQ ?_|refine jR ?_|refine jS ?_|refine jT ?_|refine jU (by assumption) rfl ?_))
        refine M.storeAll_i (vs := [vs [], vi n.a]) ca rfl rfl (pcone _ _) (fun w5 d5 k5 s5 => ?_)
        have c0 := blkKeep1 c0 k5 (by omega)
        have cb := blkKeep1 cb k5 (by omega)
        have cc := blkKeep1 cc k5 (by omega)
        have ca := d5
        have q := keepTrans1 q k5 (by omega)
        have z5 := k5.size
        (repeat (first|refine ja ?_|refine jb ?_|refine jc ?_|refine jd ?_|refine je ?_|refine jf ?_|refine jg ?_|refine jh ?_|refine ji ?_|refine jj ?_|refine jk ?_|refine jl ?_|refine jm ?_|refine jn ?_|refine jo ?_|refine jp ?_|refine jq ?_|refine jr ?_|refine js ?_|refine jt ?_|refine ju ?_|refine jv ?_|refine jw ?_|refine jx ?_|refine jy ?_|refine jz ?_|refine jA ?_|refine jB ?_|refine jC ?_|refine jD ?_|refine jE ?_|refine jF ?_|refine jG ?_|refine jH ?_|refine jI ?_|refine jJ ?_|refine jK ?_|refine jL ?_|refine jM (by assumption) ?_|refine jN (by assumption) rfl ?_|refine jO (by assumption) ?_|refine jP (by assumption) rfl ?_|refine jQ ?_|refine jR ?_|refine jS ?_|refine jT ?_|refine jU (by assumption) rfl ?_))
        refine M.storeAll_i (vs := [vs [], vi n.b]) cb rfl rfl (pcone _ _) (fun w6 d6 k6 s6 => ?_)
        have c0 := blkKeep1 c0 k6 (by omega)
        have ca := blkKeep1 ca k6 (by omega)
        have cc := blkKeep1 cc k6 (by omega)
        have cb := d6
        have q := keepTrans1 q k6 (by omega)
        have z6 := k6.size
        (repeat (first|refine ja ?_|refine jb ?_|refine jc ?_|refine jd ?_|refine je ?_|refine jf ?_|refine jg ?_|refine jh ?_|refine ji ?_|refine jj ?_|refine jk ?_|refine jl ?_|refine jm ?_|refine jn ?_|refine jo ?_|refine jp ?_|refine jq ?_|refine jr ?_|refine js ?_|refine jt ?_|refine ju ?_|refine jv ?_|refine jw ?_|refine jx ?_|refine jy ?_|refine jz ?_|refine jA ?_|refine jB ?_|refine jC ?_|refine jD ?_|refine jE ?_|refine jF ?_|refine jG ?_|refine jH ?_|refine jI ?_|refine jJ ?_|refine jK ?_|refine jL ?_|refine jM (by assumption) ?_|refine jN (by assumption) rfl ?_|refine jO (by assumption) ?_|refine jP (by assumption) rfl ?_|refine jQ ?_|refine jR ?_|refine jS ?_|refine jT ?_|refine jU (by assumption) rfl ?_))
        refine M.storeAll_i (vs := [vs [], vi n.c]) cc rfl rfl (pcone _ _) (fun w7 d7 k7 s7 => ?_)
        have c0 := blkKeep1 c0 k7 (by omega)
        have cb := blkKeep1 cb k7 (by omega)
        have ca := blkKeep1 ca k7 (by omega)
        have cc := d7
        have q := keepTrans1 q k7 (by omega)
        have z7 := k7.size
        (repeat (first|refine ja ?_|refine jb ?_|refine jc ?_|refine jd ?_|refine je ?_|refine jf ?_|refine jg ?_|refine jh ?_|refine ji ?_|refine jj ?_|refine jk ?_|refine jl ?_|refine jm ?_|refine jn ?_|refine jo ?_|refine jp ?_|refine jq ?_|refine jr ?_|refine js ?_|refine jt ?_|refine ju ?_|refine jv ?_|refine jw ?_|refine jx ?_|refine jy ?_|refine jz ?_|refine jA ?_|refine jB ?_|refine jC ?_|refine jD ?_|refine jE ?_|refine jF ?_|refine jG ?_|refine jH ?_|refine jI ?_|refine jJ ?_|refine jK ?_|refine jL ?_|refine jM (by assumption) ?_|refine jN (by assumption) rfl ?_|refine jO (by assumption) ?_|refine jP (by assumption) rfl ?_|refine jQ ?_|refine jR ?_|refine jS ?_|refine jT ?_|refine jU (by assumption) rfl ?_))
        exact hK1 _ _ ⟨_, _, _, rfl, c0, ca, cb, cc, q⟩
      ·
        refine M.new_i (l := [vs [], vi 0]) (fun w3 cc k3 s3 => ?_)
        have c0 := c0.keep k3 (fun h => h)
        have cb := cb.keep k3 (fun h => h)
        have q := q.trans k3 (fun _ _ h => h)
        have z3 := k3.size
        (repeat (first|refine ja ?_|refine jb ?_|refine jc ?_|refine jd ?_|refine je ?_|refine jf ?_|refine jg ?_|refine jh ?_|refine ji ?_|refine jj ?_|refine jk ?_|refine jl ?_|refine jm ?_|refine jn ?_|refine jo ?_|refine jp ?_|refine jq ?_|refine jr ?_|refine js ?_|refine jt ?_|refine ju ?_|refine jv ?_|refine jw ?_|refine jx ?_|refine jy ?_|refine jz ?_|refine jA ?_|refine jB ?_|refine jC ?_|refine jD ?_|refine jE ?_|refine jF ?_|refine jG ?_|refine jH ?_|refine jI ?_|refine jJ ?_|refine jK ?_|refine jL ?_|refine jM (by assumption) ?_|refine jN (by assumption) rfl ?_|refine jO (by assumption) ?_|refine jP (by assumption) rfl ?_|refine jQ ?_|refine jR ?_|refine jS ?_|refine jT ?_|refine jU (by assumption) rfl ?_))
        refine M.new_i (l := [vs [], vi 0]) (fun w4 ca k4 s4 => ?_)
        have c0 := c0.keep k4 (fun h => h)
        have cb := cb.keep k4 (fun h => h)
        have cc := cc.keep k4 (fun h => h)
        have q := q.trans k4 (fun _ _ h => h)
        have z4 := k4.size
        (repeat (first|refine ja ?_|refine jb ?_|refine jc ?_|refine jd ?_|refine je ?_|refine jf ?_|refine jg ?_|refine jh ?_|refine ji ?_|refine jj ?_|refine jk ?_|refine jl ?_|refine jm ?_|refine jn ?_|refine jo ?_|refine jp ?_|refine jq ?_|refine jr ?_|refine js ?_|refine jt ?_|refine ju ?_|refine jv ?_|refine jw ?_|refine jx ?_|refine jy ?_|refine jz ?_|refine jA ?_|refine jB ?_|refine jC ?_|refine jD ?_|refine jE ?_|refine jF ?_|refine jG ?_|refine jH ?_|refine jI ?_|refine jJ ?_|refine jK ?_|refine jL ?_|refine jM (by assumption) ?_|refine jN (by assumption) rfl ?_|refine jO (by assumption) ?_|refine jP (by assumption) rfl ?_|refine jQ ?_|refine jR ?_|refine jS ?_|refine jT ?_|refine jU (by assumption) rfl ?_))
        refine M.storeAll_i (vs := [vs [], vi n.a]) ca rfl rfl (pcone _ _) (fun w5 d5 k5 s5 => ?_)
        have c0 := blkKeep1 c0 k5 (by omega)
        have cb := blkKeep1 cb k5 (by omega)
        have cc := blkKeep1 cc k5 (by omega)
        have ca := d5
        have q := keepTrans1 q k5 (by omega)
        have z5 := k5.size
        (repeat (first|refine ja ?_|refine jb ?_|refine jc ?_|refine jd ?_|refine je ?_|refine jf ?_|refine jg ?_|refine jh ?_|refine ji ?_|refine jj ?_|refine jk ?_|refine jl ?_|refine jm ?_|refine jn ?_|refine jo ?_|refine jp ?_|refine jq ?_|refine jr ?_|refine js ?_|refine jt ?_|refine ju ?_|refine jv ?_|refine jw ?_|refine jx ?_|refine jy ?_|refine jz ?_|refine jA ?_|refine jB ?_|refine jC ?_|refine jD ?_|refine jE ?_|refine jF ?_|refine jG ?_|refine jH ?_|refine jI ?_|refine jJ ?_|refine jK ?_|refine jL ?_|refine jM (by assumption) ?_|refine jN (by assumption) rfl ?_|refine jO (by assumption) ?_|refine jP (by assumption) rfl ?_|refine jQ ?_|refine jR ?_|refine jS ?_|refine jT ?_|refine jU (by assumption) rfl ?_))
        refine M.storeAll_i (vs := [vs [], vi n.b]) cb rfl rfl (pcone _ _) (fun w6 d6 k6 s6 => ?_)
        have c0 := blkKeep1 c0 k6 (by omega)
        have cc := blkKeep1 cc k6 (by omega)
        have ca := blkKeep1 ca k6 (by omega)
        have cb := d6
        have q := keepTrans1 q k6 (by omega)
        have z6 := k6.size
        (repeat (first|refine ja ?_|refine jb ?_|refine jc ?_|refine jd ?_|refine je ?_|refine jf ?_|refine jg ?_|refine jh ?_|refine ji ?_|refine jj ?_|refine jk ?_|refine jl ?_|refine jm ?_|refine jn ?_|refine jo ?_|refine jp ?_|refine jq ?_|refine jr ?_|refine js ?_|refine jt ?_|refine ju ?_|refine jv ?_|refine jw ?_|refine jx ?_|refine jy ?_|refine jz ?_|refine jA ?_|refine jB ?_|refine jC ?_|refine jD ?_|refine jE ?_|refine jF ?_|refine jG ?_|refine jH ?_|refine jI ?_|refine jJ ?_|refine jK ?_|refine jL ?_|refine jM (by assumption) ?_|refine jN (by assumption) rfl ?_|refine jO (by assumption) ?_|refine jP (by assumption) rfl ?_|refine jQ ?_|refine jR ?_|refine jS ?_|refine jT ?_|refine jU (by assumption) rfl ?_))
        refine M.storeAll_i (vs := [vs [], vi n.c]) cc rfl rfl (pcone _ _) (fun w7 d7 k7 s7 => ?_)
        have c0 := blkKeep1 c0 k7 (by omega)
        have cb := blkKeep1 cb k7 (by omega)
        have ca := blkKeep1 ca k7 (by omega)
        have cc := d7
        have q := keepTrans1 q k7 (by omega)
        have z7 := k7.size
        (repeat (first|refine ja ?_|refine jb ?_|refine jc ?_|refine jd ?_|refine je ?_|refine jf ?_|refine jg ?_|refine jh ?_|refine ji ?_|refine jj ?_|refine jk ?_|refine jl ?_|refine jm ?_|refine jn ?_|refine jo ?_|refine jp ?_|refine jq ?_|refine jr ?_|refine js ?_|refine jt ?_|refine ju ?_|refine jv ?_|refine jw ?_|refine jx ?_|refine jy ?_|refine jz ?_|refine jA ?_|refine jB ?_|refine jC ?_|refine jD ?_|refine jE ?_|refine jF ?_|refine jG ?_|refine jH ?_|refine jI ?_|refine jJ ?_|refine jK ?_|refine jL ?_|refine jM (by assumption) ?_|refine jN (by assumption) rfl ?_|refine jO (by assumption) ?_|refine jP (by assumption) rfl ?_|refine jQ ?_|refine jR ?_|refine jS ?_|refine jT ?_|refine jU (by assumption) rfl ?_))
        exact hK1 _ _ ⟨_, _, _, rfl, c0, ca, cb, cc, q⟩
    ·
      refine M.new_i (l := [vs [], vi 0]) (fun w2 cc k2 s2 => ?_)
      have c0 := c0.keep k2 (fun h => h)
      have q := q.trans k2 (fun _ _ h => h)
      have z2 := k2.size
      (repeat (first|refine ja ?_|refine jb ?_|refine jc ?_|refine jd ?_|refine je ?_|refine jf ?_|refine jg ?_|refine jh ?_|refine ji ?_|refine jj ?_|refine jk ?_|refine jl ?_|refine jm ?_|refine jn ?_|refine jo ?_|refine jp ?_|refine jq ?_|refine jr ?_|refine js ?_|refine jt ?_|refine ju ?_|refine jv ?_|refine jw ?_|refine jx ?_|refine jy ?_|refine jz ?_|refine jA ?_|refine jB ?_|refine jC ?_|refine jD ?_|refine jE ?_|refine jF ?_|refine jG ?_|refine jH ?_|refine jI ?_|refine jJ ?_|refine jK ?_|refine jL ?_|refine jM (by assumption) ?_|refine jN (by assumption) rfl ?_|refine jO (by assumption) ?_|refine jP (by assumption) rfl ?_|refine jQ ?_|refine jR ?_|refine jS ?_|refine jT ?_|refine jU (by assumption) rfl ?_))
      refine ⟨?_, ?_⟩
      ·
        refine M.new_i (l := [vs [], vi 0]) (fun w3 ca k3 s3 => ?_)
        have c0 := c0.keep k3 (fun h => h)
        have cc := cc.keep k3 (fun h => h)
        have q := q.trans k3 (fun _ _ h => h)
        have z3 := k3.size
        (repeat (first|refine ja ?_|refine jb ?_|refine jc ?_|refine jd ?_|refine je ?_|refine jf ?_|refine jg ?_|refine jh ?_|refine ji ?_|refine jj ?_|refine jk ?_|refine jl ?_|refine jm ?_|refine jn ?_|refine jo ?_|refine jp ?_|refine jq ?_|refine jr ?_|refine js ?_|refine jt ?_|refine ju ?_|refine jv ?_|refine jw ?_|refine jx ?_|refine jy ?_|refine jz ?_|refine jA ?_|refine jB ?_|refine jC ?_|refine jD ?_|refine jE ?_|refine jF ?_|refine jG ?_|refine jH ?_|refine jI ?_|refine jJ ?_|refine jK ?_|refine jL ?_|refine jM (by assumption) ?_|refine jN (by assumption) rfl ?_|refine jO (by assumption) ?_|refine jP (by assumption) rfl ?_|refine jQ ?_|refine jR ?_|refine jS ?_|refine jT ?_|refine jU (by assumption) rfl ?_))
        refine M.new_i (l := [vs [], vi 0]) (fun w4 cb k4 s4 => ?_)
        have c0 := c0.keep k4 (fun h => h)
        have cc := cc.keep k4 (fun h => h)
        have ca := ca.keep k4 (fun h => h)
        have q := q.trans k4 (fun _ _ h => h)
        have z4 := k4.size
        (repeat (first|refine ja ?_|refine jb ?_|refine jc ?_|refine jd ?_|refine je ?_|refine jf ?_|refine jg ?_|refine jh ?_|refine ji ?_|refine jj ?_|refine jk ?_|refine jl ?_|refine jm ?_|refine jn ?_|refine jo ?_|refine jp ?_|refine jq ?_|refine jr ?_|refine js ?_|refine jt ?_|refine ju ?_|refine jv ?_|refine jw ?_|refine jx ?_|refine jy ?_|refine jz ?_|refine jA ?_|refine jB ?_|refine jC ?_|refine jD ?_|refine jE ?_|refine jF ?_|refine jG ?_|refine jH ?_|refine jI ?_|refine jJ ?_|refine jK ?_|refine jL ?_|refine jM (by assumption) ?_|refine jN (by assumption) rfl ?_|refine jO (by assumption) ?_|refine jP (by assumption) rfl ?_|refine jQ ?_|refine jR ?_|refine jS ?_|refine jT ?_|refine jU (by assumption) rfl ?_))
        refine M.storeAll_i (vs := [vs [], vi n.a]) ca rfl rfl (pcone _ _) (fun w5 d5 k5 s5 => ?_)
        have c0 := blkKeep1 c0 k5 (by omega)
        have cc := blkKeep1 cc k5 (by omega)
        have cb := blkKeep1 cb k5 (by omega)
        have ca := d5
        have q := keepTrans1 q k5 (by omega)
        have z5 := k5.size
        (repeat (first|refine ja ?_|refine jb ?_|refine jc ?_|refine jd ?_|refine je ?_|refine jf ?_|refine jg ?_|refine jh ?_|refine ji ?_|refine jj ?_|refine jk ?_|refine jl ?_|refine jm ?_|refine jn ?_|refine jo ?_|refine jp ?_|refine jq ?_|refine jr ?_|refine js ?_|refine jt ?_|refine ju ?_|refine jv ?_|refine jw ?_|refine jx ?_|refine jy ?_|refine jz ?_|refine jA ?_|refine jB ?_|refine jC ?_|refine jD ?_|refine jE ?_|refine jF ?_|refine jG ?_|refine jH ?_|refine jI ?_|refine jJ ?_|refine jK ?_|refine jL ?_|refine jM (by assumption) ?_|refine jN (by assumption) rfl ?_|refine jO (by assumption) ?_|refine jP (by assumption) rfl ?_|refine jQ ?_|refine jR ?_|refine jS ?_|refine jT ?_|refine jU (by assumption) rfl ?_))
        refine M.storeAll_i (vs := [vs [], vi n.b]) cb rfl rfl (pcone _ _) (fun w6 d6 k6 s6 => ?_)
        have c0 := blkKeep1 c0 k6 (by omega)
        have cc := blkKeep1 cc k6 (by omega)
        have ca := blkKeep1 ca k6 (by omega)
        have cb := d6
        have q := keepTrans1 q k6 (by omega)
        have z6 := k6.size
        (repeat (first|refine ja ?_|refine jb ?_|refine jc ?_|refine jd ?_|refine je ?_|refine jf ?_|refine jg ?_|refine jh ?_|refine ji ?_|refine jj ?_|refine jk ?_|refine jl ?_|refine jm ?_|refine jn ?_|refine jo ?_|refine jp ?_|refine jq ?_|refine jr ?_|refine js ?_|refine jt ?_|refine ju ?_|refine jv ?_|refine jw ?_|refine jx ?_|refine jy ?_|refine jz ?_|refine jA ?_|refine jB ?_|refine jC ?_|refine jD ?_|refine jE ?_|refine jF ?_|refine jG ?_|refine jH ?_|refine jI ?_|refine jJ ?_|refine jK ?_|refine jL ?_|refine jM (by assumption) ?_|refine jN (by assumption) rfl ?_|refine jO (by assumption) ?_|refine jP (by assumption) rfl ?_|refine jQ ?_|refine jR ?_|refine jS ?_|refine jT ?_|refine jU (by assumption) rfl ?_))
        refine M.storeAll_i (vs := [vs [], vi n.c]) cc rfl rfl (pcone _ _) (fun w7 d7 k7 s7 => ?_)
        have c0 := blkKeep1 c0 k7 (by omega)
        have ca := blkKeep1 ca k7 (by omega)
        have cb := blkKeep1 cb k7 (by omega)
        have cc := d7
        have q := keepTrans1 q k7 (by omega)
        have z7 := k7.size
        (repeat (first|refine ja ?_|refine jb ?_|refine jc ?_|refine jd ?_|refine je ?_|refine jf ?_|refine jg ?_|refine jh ?_|refine ji ?_|refine jj ?_|refine jk ?_|refine jl ?_|refine jm ?_|refine jn ?_|refine jo ?_|refine jp ?_|refine jq ?_|refine jr ?_|refine js ?_|refine jt ?_|refine ju ?_|refine jv ?_|refine jw ?_|refine jx ?_|refine jy ?_|refine jz ?_|refine jA ?_|refine jB ?_|refine jC ?_|refine jD ?_|refine jE ?_|refine jF ?_|refine jG ?_|refine jH ?_|refine jI ?_|refine jJ ?_|refine jK ?_|refine jL ?_|refine jM (by assumption) ?_|refine jN (by assumption) rfl ?_|refine jO (by assumption) ?_|refine jP (by assumption) rfl ?_|refine jQ ?_|refine jR ?_|refine jS ?_|refine jT ?_|refine jU (by assumption) rfl ?_))
        exact hK1 _ _ ⟨_, _, _, rfl, c0, ca, cb, cc, q⟩
      ·
        refine M.new_i (l := [vs [], vi 0]) (fun w3 cb k3 s3 => ?_)
        have c0 := c0.keep k3 (fun h => h)
        have cc := cc.keep k3 (fun h => h)
        have q := q.trans k3 (fun _ _ h => h)
        have z3 := k3.size
        (repeat (first|refine ja ?_|refine jb ?_|refine jc ?_|refine jd ?_|refine je ?_|refine jf ?_|refine jg ?_|refine jh ?_|refine ji ?_|refine jj ?_|refine jk ?_|refine jl ?_|refine jm ?_|refine jn ?_|refine jo ?_|refine jp ?_|refine jq ?_|refine jr ?_|refine js ?_|refine jt ?_|refine ju ?_|refine jv ?_|refine jw ?_|refine jx ?_|refine jy ?_|refine jz ?_|refine jA ?_|refine jB ?_|refine jC ?_|refine jD ?_|refine jE ?_|refine jF ?_|refine jG ?_|refine jH ?_|refine jI ?_|refine jJ ?_|refine jK ?_|refine jL ?_|refine jM (by assumption) ?_|refine jN (by assumption) rfl ?_|refine jO (by assumption) ?_|refine jP (by assumption) rfl ?_|refine jQ ?_|refine jR ?_|refine jS ?_|refine jT ?_|refine jU (by assumption) rfl ?_))
        refine M.new_i (l := [vs [], vi 0]) (fun w4 ca k4 s4 => ?_)
        have c0 := c0.keep k4 (fun h => h)
        have cc := cc.keep k4 (fun h => h)
        have cb := cb.keep k4 (fun h => h)
        have q := q.trans k4 (fun _ _ h => h)
        have z4 := k4.size
        (repeat (first|refine ja ?_|refine jb ?_|refine jc ?_|refine jd ?_|refine je ?_|refine jf ?_|refine jg ?_|refine jh ?_|refine ji ?_|refine jj ?_|refine jk ?_|refine jl ?_|refine jm ?_|refine jn ?_|refine jo ?_|refine jp ?_|refine jq ?_|refine jr ?_|refine js ?_|refine jt ?_|refine ju ?_|refine jv ?_|refine jw ?_|refine jx ?_|refine jy ?_|refine jz ?_|refine jA ?_|refine jB ?_|refine jC ?_|refine jD ?_|refine jE ?_|refine jF ?_|refine jG ?_|refine jH ?_|refine jI ?_|refine jJ ?_|refine jK ?_|refine jL ?_|refine jM (by assumption) ?_|refine jN (by assumption) rfl ?_|refine jO (by assumption) ?_|refine jP (by assumption) rfl ?_|refine jQ ?_|refine jR ?_|refine jS ?_|refine jT ?_|refine jU (by assumption) rfl ?_))
        refine M.storeAll_i (vs := [vs [], vi n.a]) ca rfl rfl (pcone _ _) (fun w5 d5 k5 s5 => ?_)
        have c0 := blkKeep1 c0 k5 (by omega)
        have cc := blkKeep1 cc k5 (by omega)
        have cb := blkKeep1 cb k5 (by omega)
        have ca := d5
        have q := keepTrans1 q k5 (by omega)
        have z5 := k5.size
        (repeat (first|refine ja ?_|refine jb ?_|refine jc ?_|refine jd ?_|refine je ?_|refine jf ?_|refine jg ?_|refine jh ?_|refine ji ?_|refine jj ?_|refine jk ?_|refine jl ?_|refine jm ?_|refine jn ?_|refine jo ?_|refine jp ?_|refine jq ?_|refine jr ?_|refine js ?_|refine jt ?_|refine ju ?_|refine jv ?_|refine jw ?_|refine jx ?_|refine jy ?_|refine jz ?_|refine jA ?_|refine jB ?_|refine jC ?_|refine jD ?_|refine jE ?_|refine jF ?_|refine jG ?_|refine jH ?_|refine jI ?_|refine jJ ?_|refine jK ?_|refine jL ?_|refine jM (by assumption) ?_|refine jN (by assumption) rfl ?_|refine jO (by assumption) ?_|refine jP (by assumption) rfl ?_|refine jQ ?_|refine jR ?_|refine jS ?_|refine jT ?_|refine jU (by assumption) rfl ?_))
        refine M.storeAll_i (vs := [vs [], vi n.b]) cb rfl rfl (pcone _ _) (fun w6 d6 k6 s6 => ?_)
        have c0 := blkKeep1 c0 k6 (by omega)
        have cc := blkKeep1 cc k6 (by omega)
        have ca := blkKeep1 ca k6 (by omega)
        have cb := d6
        have q := keepTrans1 q k6 (by omega)
        have z6 := k6.size
        (repeat (first|refine ja ?_|refine jb ?_|refine jc ?_|refine jd ?_|refine je ?_|refine jf ?_|refine jg ?_|refine jh ?_|refine ji ?_|refine jj ?_|refine jk ?_|refine jl ?_|refine jm ?_|refine jn ?_|refine jo ?_|refine jp ?_|refine jq ?_|refine jr ?_|refine js ?_|refine jt ?_|refine ju ?_|refine jv ?_|refine jw ?_|refine jx ?_|refine jy ?_|refine jz ?_|refine jA ?_|refine jB ?_|refine jC ?_|refine jD ?_|refine jE ?_|refine jF ?_|refine jG ?_|refine jH ?_|refine jI ?_|refine jJ ?_|refine jK ?_|refine jL ?_|refine jM (by assumption) ?_|refine jN (by assumption) rfl ?_|refine jO (by assumption) ?_|refine jP (by assumption) rfl ?_|refine jQ ?_|refine jR ?_|refine jS ?_|refine jT ?_|refine jU (by assumption) rfl ?_))
        refine M.storeAll_i (vs := [vs [], vi n.c]) cc rfl rfl (pcone _ _) (fun w7 d7 k7 s7 => ?_)
        have c0 := blkKeep1 c0 k7 (by omega)
        have cb := blkKeep1 cb k7 (by omega)
        have ca := blkKeep1 ca k7 (by omega)
        have cc := d7
        have q := keepTrans1 q k7 (by omega)
        have z7 := k7.size
        (repeat (first|refine ja ?_|refine jb ?_|refine jc ?_|refine jd ?_|refine je ?_|refine jf ?_|refine jg ?_|refine jh ?_|refine ji ?_|refine jj ?_|refine jk ?_|refine jl ?_|refine jm ?_|refine jn ?_|refine jo ?_|refine jp ?_|refine jq ?_|refine jr ?_|refine js ?_|refine jt ?_|refine ju ?_|refine jv ?_|refine jw ?_|refine jx ?_|refine jy ?_|refine jz ?_|refine jA ?_|refine jB ?_|refine jC ?_|refine jD ?_|refine jE ?_|refine jF ?_|refine jG ?_|refine jH ?_|refine jI ?_|refine jJ ?_|refine jK ?_|refine jL ?_|refine jM (by assumption) ?_|refine jN (by assumption) rfl ?_|refine jO (by assumption) ?_|refine jP (by assumption) rfl ?_|refine jQ ?_|refine jR ?_|refine jS ?_|refine jT ?_|refine jU (by assumption) rfl ?_))
        exact hK1 _ _ ⟨_, _, _, rfl, c0, ca, cb, cc, q⟩
  case refine_1 =>
    rintro vals w1 ⟨pa, pb, pc, rfl, c0, ca, cb, cc, q⟩ _
    simp only [List.getD_cons_zero, List.getD_cons_succ]
    have z1 := q.size; have z0 := c0.lt
    have ca0 := ca; have cb0 := cb; have cc0 := cc
    refine M.call_i (text_ret [32] w1) ?_; rintro _ w2 ⟨rfl, k2⟩
    have c0 := c0.keep k2 (fun h => h)
    have ca := ca.keep k2 (fun h => h)
    have cb := cb.keep k2 (fun h => h)
    have cc := cc.keep k2 (fun h => h)
    have q := q.trans k2 (fun _ _ h => h)
    have z2 := k2.size
    refine M.call_i (text_ret [41] w2) ?_; rintro _ w3 ⟨rfl, k3⟩
    have c0 := c0.keep k3 (fun h => h)
    have ca := ca.keep k3 (fun h => h)
    have cb := cb.keep k3 (fun h => h)
    have cc := cc.keep k3 (fun h => h)
    have q := q.trans k3 (fun _ _ h => h)
    have z3 := k3.size
    refine M.new_i (l := [vs [], vi 0]) (fun w4 c8 k4 s4 => ?_)
    have c0 := c0.keep k4 (fun h => h)
    have ca := ca.keep k4 (fun h => h)
    have cb := cb.keep k4 (fun h => h)
    have cc := cc.keep k4 (fun h => h)
    have q := q.trans k4 (fun _ _ h => h)
    have z4 := k4.size
    refine M.new_i (l := [vs [], vi 0]) (fun w5 c9 k5 s5 => ?_)
    have c0 := c0.keep k5 (fun h => h)
    have ca := ca.keep k5 (fun h => h)
    have cb := cb.keep k5 (fun h => h)
    have cc := cc.keep k5 (fun h => h)
    have c8 := c8.keep k5 (fun h => h)
    have q := q.trans k5 (fun _ _ h => h)
    have z5 := k5.size
    refine M.storeAll_i (vs := (tP [32]).cells) c8 rfl rfl (pcone _ _) (fun w6 d6 k6 s6 => ?_)
    have c0 := blkKeep1 c0 k6 (by have := ca0.lt; have := cb0.lt; have := cc0.lt; omega)
    have ca := blkKeep1 ca k6 (by have := ca0.lt; have := cb0.lt; have := cc0.lt; omega)
    have cb := blkKeep1 cb k6 (by have := ca0.lt; have := cb0.lt; have := cc0.lt; omega)
    have cc := blkKeep1 cc k6 (by have := ca0.lt; have := cb0.lt; have := cc0.lt; omega)
    have c9 := blkKeep1 c9 k6 (by have := ca0.lt; have := cb0.lt; have := cc0.lt; omega)
    have c8 := d6
    have q := keepTrans1 q k6 (by omega)
    have z6 := k6.size
    refine M.storeAll_i (vs := (tP [41]).cells) c9 rfl rfl (pcone _ _) (fun w7 d7 k7 s7 => ?_)
    have c0 := blkKeep1 c0 k7 (by have := ca0.lt; have := cb0.lt; have := cc0.lt; omega)
    have ca := blkKeep1 ca k7 (by have := ca0.lt; have := cb0.lt; have := cc0.lt; omega)
    have cb := blkKeep1 cb k7 (by have := ca0.lt; have := cb0.lt; have := cc0.lt; omega)
    have cc := blkKeep1 cc k7 (by have := ca0.lt; have := cb0.lt; have := cc0.lt; omega)
    have c8 := blkKeep1 c8 k7 (by have := ca0.lt; have := cb0.lt; have := cc0.lt; omega)
    have c9 := d7
    have q := keepTrans1 q k7 (by omega)
    have z7 := k7.size
    have k8 := Keep.drew w7 No
    have z8 := k8.size
    refine M.draw_i ?_
    have c0 := c0.keep k8 (fun h => h)
    have ca := ca.keep k8 (fun h => h)
    have cb := cb.keep k8 (fun h => h)
    have cc := cc.keep k8 (fun h => h)
    have c8 := c8.keep k8 (fun h => h)
    have c9 := c9.keep k8 (fun h => h)
    have q := q.trans k8 (fun _ _ h => h)
    (repeat (first|refine ja ?_|refine jb ?_|refine jc ?_|refine jd ?_|refine je ?_|refine jf ?_|refine jg ?_|refine jh ?_|refine ji ?_|refine jj ?_|refine jk ?_|refine jl ?_|refine jm ?_|refine jn ?_|refine jo ?_|refine jp ?_|refine jq ?_|refine jr ?_|refine js ?_|refine jt ?_|refine ju ?_|refine jv ?_|refine jw ?_|refine jx ?_|refine jy ?_|refine jz ?_|refine jA ?_|refine jB ?_|refine jC ?_|refine jD ?_|refine jE ?_|refine jF ?_|refine jG ?_|refine jH ?_|refine jI ?_|refine jJ ?_|refine jK ?_|refine jL ?_|refine jM (by assumption) ?_|refine jN (by assumption) rfl ?_|refine jO (by assumption) ?_|refine jP (by assumption) rfl ?_|refine jQ ?_|refine jR ?_|refine jS ?_|refine jT ?_|refine jU (by assumption) rfl ?_))
    refine M.call_i ((hd.keepN q).width n.a) ?_; rintro _ w9 ⟨rfl, k9⟩
    have c0 := c0.keep k9 (fun h => h)
    have ca := ca.keep k9 (fun h => h)
    have cb := cb.keep k9 (fun h => h)
    have cc := cc.keep k9 (fun h => h)
    have c8 := c8.keep k9 (fun h => h)
    have c9 := c9.keep k9 (fun h => h)
    have q := q.trans k9 (fun _ _ h => h)
    (repeat (first|refine ja ?_|refine jb ?_|refine jc ?_|refine jd ?_|refine je ?_|refine jf ?_|refine jg ?_|refine jh ?_|refine ji ?_|refine jj ?_|refine jk ?_|refine jl ?_|refine jm ?_|refine jn ?_|refine jo ?_|refine jp ?_|refine jq ?_|refine jr ?_|refine js ?_|refine jt ?_|refine ju ?_|refine jv ?_|refine jw ?_|refine jx ?_|refine jy ?_|refine jz ?_|refine jA ?_|refine jB ?_|refine jC ?_|refine jD ?_|refine jE ?_|refine jF ?_|refine jG ?_|refine jH ?_|refine jI ?_|refine jJ ?_|refine jK ?_|refine jL ?_|refine jM (by assumption) ?_|refine jN (by assumption) rfl ?_|refine jO (by assumption) ?_|refine jP (by assumption) rfl ?_|refine jQ ?_|refine jR ?_|refine jS ?_|refine jT ?_|refine jU (by assumption) rfl ?_))
    refine M.call_i (number_ret _ w9) ?_; rintro _ w10 ⟨rfl, k10⟩
    have c0 := c0.keep k10 (fun h => h)
    have ca := ca.keep k10 (fun h => h)
    have cb := cb.keep k10 (fun h => h)
    have cc := cc.keep k10 (fun h => h)
    have c8 := c8.keep k10 (fun h => h)
    have c9 := c9.keep k10 (fun h => h)
    have q := q.trans k10 (fun _ _ h => h)
    (repeat (first|refine ja ?_|refine jb ?_|refine jc ?_|refine jd ?_|refine je ?_|refine jf ?_|refine jg ?_|refine jh ?_|refine ji ?_|refine jj ?_|refine jk ?_|refine jl ?_|refine jm ?_|refine jn ?_|refine jo ?_|refine jp ?_|refine jq ?_|refine jr ?_|refine js ?_|refine jt ?_|refine ju ?_|refine jv ?_|refine jw ?_|refine jx ?_|refine jy ?_|refine jz ?_|refine jA ?_|refine jB ?_|refine jC ?_|refine jD ?_|refine jE ?_|refine jF ?_|refine jG ?_|refine jH ?_|refine jI ?_|refine jJ ?_|refine jK ?_|refine jL ?_|refine jM (by assumption) ?_|refine jN (by assumption) rfl ?_|refine jO (by assumption) ?_|refine jP (by assumption) rfl ?_|refine jQ ?_|refine jR ?_|refine jS ?_|refine jT ?_|refine jU (by assumption) rfl ?_))
    by_cases e20 : n.op = 20
    ·
      have hp : pcsN N n = [tP (([40, 95, 32, 98, 118] : List UInt8) ++ digB n.val.toNat ++ ([32] : List UInt8) ++ numB n.wd ++ ([41] : List UInt8))] := by unfold pcsN; rw [if_pos e20]
      (repeat (first|refine ja ?_|refine jb ?_|refine jc ?_|refine jd ?_|refine je ?_|refine jf ?_|refine jg ?_|refine jh ?_|refine ji ?_|refine jj ?_|refine jk ?_|refine jl ?_|refine jm ?_|refine jn ?_|refine jo ?_|refine jp ?_|refine jq ?_|refine jr ?_|refine js ?_|refine jt ?_|refine ju ?_|refine jv ?_|refine jw ?_|refine jx ?_|refine jy ?_|refine jz ?_|refine jA ?_|refine jB ?_|refine jC ?_|refine jD ?_|refine jE ?_|refine jF ?_|refine jG ?_|refine jH ?_|refine jI ?_|refine jJ ?_|refine jK ?_|refine jL ?_|refine jM (by assumption) ?_|refine jN (by assumption) rfl ?_|refine jO (by assumption) ?_|refine jP (by assumption) rfl ?_|refine jQ ?_|refine jR ?_|refine jS ?_|refine jT ?_|refine jU (by assumption) rfl ?_))
      have k11 := Keep.drew w10 No
      have z11 := k11.size
      have c0 := c0.keep k11 (fun h => h)
      have ca := ca.keep k11 (fun h => h)
      have cb := cb.keep k11 (fun h => h)
      have cc := cc.keep k11 (fun h => h)
      have c8 := c8.keep k11 (fun h => h)
      have c9 := c9.keep k11 (fun h => h)
      have q := q.trans k11 (fun _ _ h => h)
      (repeat (first|refine ja ?_|refine jb ?_|refine jc ?_|refine jd ?_|refine je ?_|refine jf ?_|refine jg ?_|refine jh ?_|refine ji ?_|refine jj ?_|refine jk ?_|refine jl ?_|refine jm ?_|refine jn ?_|refine jo ?_|refine jp ?_|refine jq ?_|refine jr ?_|refine js ?_|refine jt ?_|refine ju ?_|refine jv ?_|refine jw ?_|refine jx ?_|refine jy ?_|refine jz ?_|refine jA ?_|refine jB ?_|refine jC ?_|refine jD ?_|refine jE ?_|refine jF ?_|refine jG ?_|refine jH ?_|refine jI ?_|refine jJ ?_|refine jK ?_|refine jL ?_|refine jM (by assumption) ?_|refine jN (by assumption) rfl ?_|refine jO (by assumption) ?_|refine jP (by assumption) rfl ?_|refine jQ ?_|refine jR ?_|refine jS ?_|refine jT ?_|refine jU (by assumption) rfl ?_))
      repeat (first | refine M.loadAll_i ca rfl ?_ | refine M.loadAll_i cb rfl ?_ | refine M.loadAll_i cc rfl ?_ | refine M.loadAll_i c8 rfl ?_ | refine M.loadAll_i c9 rfl ?_)
      (repeat (first|refine ja ?_|refine jb ?_|refine jc ?_|refine jd ?_|refine je ?_|refine jf ?_|refine jg ?_|refine jh ?_|refine ji ?_|refine jj ?_|refine jk ?_|refine jl ?_|refine jm ?_|refine jn ?_|refine jo ?_|refine jp ?_|refine jq ?_|refine jr ?_|refine js ?_|refine jt ?_|refine ju ?_|refine jv ?_|refine jw ?_|refine jx ?_|refine jy ?_|refine jz ?_|refine jA ?_|refine jB ?_|refine jC ?_|refine jD ?_|refine jE ?_|refine jF ?_|refine jG ?_|refine jH ?_|refine jI ?_|refine jJ ?_|refine jK ?_|refine jL ?_|refine jM (by assumption) ?_|refine jN (by assumption) rfl ?_|refine jO (by assumption) ?_|refine jP (by assumption) rfl ?_|refine jQ ?_|refine jR ?_|refine jS ?_|refine jT ?_|refine jU (by assumption) rfl ?_))
      refine M.call_i (digits_ret (BitVec.isLt n.val) w10.drew) ?_; rintro _ w12 ⟨rfl, k12⟩
      have c0 := c0.keep k12 (fun h => h)
      have ca := ca.keep k12 (fun h => h)
      have cb := cb.keep k12 (fun h => h)
      have cc := cc.keep k12 (fun h => h)
      have c8 := c8.keep k12 (fun h => h)
      have c9 := c9.keep k12 (fun h => h)
      have q := q.trans k12 (fun _ _ h => h)
      (repeat (first|refine ja ?_|refine jb ?_|refine jc ?_|refine jd ?_|refine je ?_|refine jf ?_|refine jg ?_|refine jh ?_|refine ji ?_|refine jj ?_|refine jk ?_|refine jl ?_|refine jm ?_|refine jn ?_|refine jo ?_|refine jp ?_|refine jq ?_|refine jr ?_|refine js ?_|refine jt ?_|refine ju ?_|refine jv ?_|refine jw ?_|refine jx ?_|refine jy ?_|refine jz ?_|refine jA ?_|refine jB ?_|refine jC ?_|refine jD ?_|refine jE ?_|refine jF ?_|refine jG ?_|refine jH ?_|refine jI ?_|refine jJ ?_|refine jK ?_|refine jL ?_|refine jM (by assumption) ?_|refine jN (by assumption) rfl ?_|refine jO (by assumption) ?_|refine jP (by assumption) rfl ?_|refine jQ ?_|refine jR ?_|refine jS ?_|refine jT ?_|refine jU (by assumption) rfl ?_))
      refine M.str_i (by simp only [List.length_append, List.length_cons, List.length_nil]; omega) ?_
      (repeat (first|refine ja ?_|refine jb ?_|refine jc ?_|refine jd ?_|refine je ?_|refine jf ?_|refine jg ?_|refine jh ?_|refine ji ?_|refine jj ?_|refine jk ?_|refine jl ?_|refine jm ?_|refine jn ?_|refine jo ?_|refine jp ?_|refine jq ?_|refine jr ?_|refine js ?_|refine jt ?_|refine ju ?_|refine jv ?_|refine jw ?_|refine jx ?_|refine jy ?_|refine jz ?_|refine jA ?_|refine jB ?_|refine jC ?_|refine jD ?_|refine jE ?_|refine jF ?_|refine jG ?_|refine jH ?_|refine jI ?_|refine jJ ?_|refine jK ?_|refine jL ?_|refine jM (by assumption) ?_|refine jN (by assumption) rfl ?_|refine jO (by assumption) ?_|refine jP (by assumption) rfl ?_|refine jQ ?_|refine jR ?_|refine jS ?_|refine jT ?_|refine jU (by assumption) rfl ?_))
      refine M.str_i (by simp only [List.length_append, List.length_cons, List.length_nil]; omega) ?_
      (repeat (first|refine ja ?_|refine jb ?_|refine jc ?_|refine jd ?_|refine je ?_|refine jf ?_|refine jg ?_|refine jh ?_|refine ji ?_|refine jj ?_|refine jk ?_|refine jl ?_|refine jm ?_|refine jn ?_|refine jo ?_|refine jp ?_|refine jq ?_|refine jr ?_|refine js ?_|refine jt ?_|refine ju ?_|refine jv ?_|refine jw ?_|refine jx ?_|refine jy ?_|refine jz ?_|refine jA ?_|refine jB ?_|refine jC ?_|refine jD ?_|refine jE ?_|refine jF ?_|refine jG ?_|refine jH ?_|refine jI ?_|refine jJ ?_|refine jK ?_|refine jL ?_|refine jM (by assumption) ?_|refine jN (by assumption) rfl ?_|refine jO (by assumption) ?_|refine jP (by assumption) rfl ?_|refine jQ ?_|refine jR ?_|refine jS ?_|refine jT ?_|refine jU (by assumption) rfl ?_))
      refine M.call_i (number_ret _ w12) ?_; rintro _ w13 ⟨rfl, k13⟩
      have c0 := c0.keep k13 (fun h => h)
      have ca := ca.keep k13 (fun h => h)
      have cb := cb.keep k13 (fun h => h)
      have cc := cc.keep k13 (fun h => h)
      have c8 := c8.keep k13 (fun h => h)
      have c9 := c9.keep k13 (fun h => h)
      have q := q.trans k13 (fun _ _ h => h)
      (repeat (first|refine ja ?_|refine jb ?_|refine jc ?_|refine jd ?_|refine je ?_|refine jf ?_|refine jg ?_|refine jh ?_|refine ji ?_|refine jj ?_|refine jk ?_|refine jl ?_|refine jm ?_|refine jn ?_|refine jo ?_|refine jp ?_|refine jq ?_|refine jr ?_|refine js ?_|refine jt ?_|refine ju ?_|refine jv ?_|refine jw ?_|refine jx ?_|refine jy ?_|refine jz ?_|refine jA ?_|refine jB ?_|refine jC ?_|refine jD ?_|refine jE ?_|refine jF ?_|refine jG ?_|refine jH ?_|refine jI ?_|refine jJ ?_|refine jK ?_|refine jL ?_|refine jM (by assumption) ?_|refine jN (by assumption) rfl ?_|refine jO (by assumption) ?_|refine jP (by assumption) rfl ?_|refine jQ ?_|refine jR ?_|refine jS ?_|refine jT ?_|refine jU (by assumption) rfl ?_))
      refine M.str_i (by simp only [List.length_append, List.length_cons, List.length_nil]; omega) ?_
      (repeat (first|refine ja ?_|refine jb ?_|refine jc ?_|refine jd ?_|refine je ?_|refine jf ?_|refine jg ?_|refine jh ?_|refine ji ?_|refine jj ?_|refine jk ?_|refine jl ?_|refine jm ?_|refine jn ?_|refine jo ?_|refine jp ?_|refine jq ?_|refine jr ?_|refine js ?_|refine jt ?_|refine ju ?_|refine jv ?_|refine jw ?_|refine jx ?_|refine jy ?_|refine jz ?_|refine jA ?_|refine jB ?_|refine jC ?_|refine jD ?_|refine jE ?_|refine jF ?_|refine jG ?_|refine jH ?_|refine jI ?_|refine jJ ?_|refine jK ?_|refine jL ?_|refine jM (by assumption) ?_|refine jN (by assumption) rfl ?_|refine jO (by assumption) ?_|refine jP (by assumption) rfl ?_|refine jQ ?_|refine jR ?_|refine jS ?_|refine jT ?_|refine jU (by assumption) rfl ?_))
      refine M.str_i (by simp only [List.length_append, List.length_cons, List.length_nil]; omega) ?_
      (repeat (first|refine ja ?_|refine jb ?_|refine jc ?_|refine jd ?_|refine je ?_|refine jf ?_|refine jg ?_|refine jh ?_|refine ji ?_|refine jj ?_|refine jk ?_|refine jl ?_|refine jm ?_|refine jn ?_|refine jo ?_|refine jp ?_|refine jq ?_|refine jr ?_|refine js ?_|refine jt ?_|refine ju ?_|refine jv ?_|refine jw ?_|refine jx ?_|refine jy ?_|refine jz ?_|refine jA ?_|refine jB ?_|refine jC ?_|refine jD ?_|refine jE ?_|refine jF ?_|refine jG ?_|refine jH ?_|refine jI ?_|refine jJ ?_|refine jK ?_|refine jL ?_|refine jM (by assumption) ?_|refine jN (by assumption) rfl ?_|refine jO (by assumption) ?_|refine jP (by assumption) rfl ?_|refine jQ ?_|refine jR ?_|refine jS ?_|refine jT ?_|refine jU (by assumption) rfl ?_))
      refine M.call_i (text_ret _ w13) ?_; rintro _ w14 ⟨rfl, k14⟩
      have c0 := c0.keep k14 (fun h => h)
      have ca := ca.keep k14 (fun h => h)
      have cb := cb.keep k14 (fun h => h)
      have cc := cc.keep k14 (fun h => h)
      have c8 := c8.keep k14 (fun h => h)
      have c9 := c9.keep k14 (fun h => h)
      have q := q.trans k14 (fun _ _ h => h)
      (repeat (first|refine ja ?_|refine jb ?_|refine jc ?_|refine jd ?_|refine je ?_|refine jf ?_|refine jg ?_|refine jh ?_|refine ji ?_|refine jj ?_|refine jk ?_|refine jl ?_|refine jm ?_|refine jn ?_|refine jo ?_|refine jp ?_|refine jq ?_|refine jr ?_|refine js ?_|refine jt ?_|refine ju ?_|refine jv ?_|refine jw ?_|refine jx ?_|refine jy ?_|refine jz ?_|refine jA ?_|refine jB ?_|refine jC ?_|refine jD ?_|refine jE ?_|refine jF ?_|refine jG ?_|refine jH ?_|refine jI ?_|refine jJ ?_|refine jK ?_|refine jL ?_|refine jM (by assumption) ?_|refine jN (by assumption) rfl ?_|refine jO (by assumption) ?_|refine jP (by assumption) rfl ?_|refine jQ ?_|refine jR ?_|refine jS ?_|refine jT ?_|refine jU (by assumption) rfl ?_))
      have y15 := q.size
      refine M.buildSlice_i (([tP (([40, 95, 32, 98, 118] : List UInt8) ++ digB n.val.toNat ++ ([32] : List UInt8) ++ numB n.wd ++ ([41] : List UInt8))]).flatMap Pc.cells) (by kernel_rfl) (fun w15 b15 k15 s15 => ?_)
      have c0 := c0.keep k15 (fun h => h)
      have ca := ca.keep k15 (fun h => h)
      have cb := cb.keep k15 (fun h => h)
      have cc := cc.keep k15 (fun h => h)
      have c8 := c8.keep k15 (fun h => h)
      have c9 := c9.keep k15 (fun h => h)
      have q := q.trans k15 (fun _ _ h => h)
      (repeat (first|refine ja ?_|refine jb ?_|refine jc ?_|refine jd ?_|refine je ?_|refine jf ?_|refine jg ?_|refine jh ?_|refine ji ?_|refine jj ?_|refine jk ?_|refine jl ?_|refine jm ?_|refine jn ?_|refine jo ?_|refine jp ?_|refine jq ?_|refine jr ?_|refine js ?_|refine jt ?_|refine ju ?_|refine jv ?_|refine jw ?_|refine jx ?_|refine jy ?_|refine jz ?_|refine jA ?_|refine jB ?_|refine jC ?_|refine jD ?_|refine jE ?_|refine jF ?_|refine jG ?_|refine jH ?_|refine jI ?_|refine jJ ?_|refine jK ?_|refine jL ?_|refine jM (by assumption) ?_|refine jN (by assumption) rfl ?_|refine jO (by assumption) ?_|refine jP (by assumption) rfl ?_|refine jQ ?_|refine jR ?_|refine jS ?_|refine jT ?_|refine jU (by assumption) rfl ?_))
      rw [hp]
      exact ⟨_, rfl, b15, by omega, q⟩
    by_cases e21 : n.op = 21
    ·
      have hp : pcsN N n = [tP (([120] : List UInt8) ++ numB n.a)] := by unfold pcsN; rw [if_neg e20, if_pos e21]
      (repeat (first|refine ja ?_|refine jb ?_|refine jc ?_|refine jd ?_|refine je ?_|refine jf ?_|refine jg ?_|refine jh ?_|refine ji ?_|refine jj ?_|refine jk ?_|refine jl ?_|refine jm ?_|refine jn ?_|refine jo ?_|refine jp ?_|refine jq ?_|refine jr ?_|refine js ?_|refine jt ?_|refine ju ?_|refine jv ?_|refine jw ?_|refine jx ?_|refine jy ?_|refine jz ?_|refine jA ?_|refine jB ?_|refine jC ?_|refine jD ?_|refine jE ?_|refine jF ?_|refine jG ?_|refine jH ?_|refine jI ?_|refine jJ ?_|refine jK ?_|refine jL ?_|refine jM (by assumption) ?_|refine jN (by assumption) rfl ?_|refine jO (by assumption) ?_|refine jP (by assumption) rfl ?_|refine jQ ?_|refine jR ?_|refine jS ?_|refine jT ?_|refine jU (by assumption) rfl ?_))
      refine M.call_i (number_ret _ w10) ?_; rintro _ w11 ⟨rfl, k11⟩
      have c0 := c0.keep k11 (fun h => h)
      have ca := ca.keep k11 (fun h => h)
      have cb := cb.keep k11 (fun h => h)
      have cc := cc.keep k11 (fun h => h)
      have c8 := c8.keep k11 (fun h => h)
      have c9 := c9.keep k11 (fun h => h)
      have q := q.trans k11 (fun _ _ h => h)
      (repeat (first|refine ja ?_|refine jb ?_|refine jc ?_|refine jd ?_|refine je ?_|refine jf ?_|refine jg ?_|refine jh ?_|refine ji ?_|refine jj ?_|refine jk ?_|refine jl ?_|refine jm ?_|refine jn ?_|refine jo ?_|refine jp ?_|refine jq ?_|refine jr ?_|refine js ?_|refine jt ?_|refine ju ?_|refine jv ?_|refine jw ?_|refine jx ?_|refine jy ?_|refine jz ?_|refine jA ?_|refine jB ?_|refine jC ?_|refine jD ?_|refine jE ?_|refine jF ?_|refine jG ?_|refine jH ?_|refine jI ?_|refine jJ ?_|refine jK ?_|refine jL ?_|refine jM (by assumption) ?_|refine jN (by assumption) rfl ?_|refine jO (by assumption) ?_|refine jP (by assumption) rfl ?_|refine jQ ?_|refine jR ?_|refine jS ?_|refine jT ?_|refine jU (by assumption) rfl ?_))
      refine M.str_i (by simp only [List.length_append, List.length_cons, List.length_nil]; omega) ?_
      (repeat (first|refine ja ?_|refine jb ?_|refine jc ?_|refine jd ?_|refine je ?_|refine jf ?_|refine jg ?_|refine jh ?_|refine ji ?_|refine jj ?_|refine jk ?_|refine jl ?_|refine jm ?_|refine jn ?_|refine jo ?_|refine jp ?_|refine jq ?_|refine jr ?_|refine js ?_|refine jt ?_|refine ju ?_|refine jv ?_|refine jw ?_|refine jx ?_|refine jy ?_|refine jz ?_|refine jA ?_|refine jB ?_|refine jC ?_|refine jD ?_|refine jE ?_|refine jF ?_|refine jG ?_|refine jH ?_|refine jI ?_|refine jJ ?_|refine jK ?_|refine jL ?_|refine jM (by assumption) ?_|refine jN (by assumption) rfl ?_|refine jO (by assumption) ?_|refine jP (by assumption) rfl ?_|refine jQ ?_|refine jR ?_|refine jS ?_|refine jT ?_|refine jU (by assumption) rfl ?_))
      refine M.call_i (text_ret _ w11) ?_; rintro _ w12 ⟨rfl, k12⟩
      have c0 := c0.keep k12 (fun h => h)
      have ca := ca.keep k12 (fun h => h)
      have cb := cb.keep k12 (fun h => h)
      have cc := cc.keep k12 (fun h => h)
      have c8 := c8.keep k12 (fun h => h)
      have c9 := c9.keep k12 (fun h => h)
      have q := q.trans k12 (fun _ _ h => h)
      (repeat (first|refine ja ?_|refine jb ?_|refine jc ?_|refine jd ?_|refine je ?_|refine jf ?_|refine jg ?_|refine jh ?_|refine ji ?_|refine jj ?_|refine jk ?_|refine jl ?_|refine jm ?_|refine jn ?_|refine jo ?_|refine jp ?_|refine jq ?_|refine jr ?_|refine js ?_|refine jt ?_|refine ju ?_|refine jv ?_|refine jw ?_|refine jx ?_|refine jy ?_|refine jz ?_|refine jA ?_|refine jB ?_|refine jC ?_|refine jD ?_|refine jE ?_|refine jF ?_|refine jG ?_|refine jH ?_|refine jI ?_|refine jJ ?_|refine jK ?_|refine jL ?_|refine jM (by assumption) ?_|refine jN (by assumption) rfl ?_|refine jO (by assumption) ?_|refine jP (by assumption) rfl ?_|refine jQ ?_|refine jR ?_|refine jS ?_|refine jT ?_|refine jU (by assumption) rfl ?_))
      have y13 := q.size
      refine M.buildSlice_i (([tP (([120] : List UInt8) ++ numB n.a)]).flatMap Pc.cells) (by kernel_rfl) (fun w13 b13 k13 s13 => ?_)
      have c0 := c0.keep k13 (fun h => h)
      have ca := ca.keep k13 (fun h => h)
      have cb := cb.keep k13 (fun h => h)
      have cc := cc.keep k13 (fun h => h)
      have c8 := c8.keep k13 (fun h => h)
      have c9 := c9.keep k13 (fun h => h)
      have q := q.trans k13 (fun _ _ h => h)
      (repeat (first|refine ja ?_|refine jb ?_|refine jc ?_|refine jd ?_|refine je ?_|refine jf ?_|refine jg ?_|refine jh ?_|refine ji ?_|refine jj ?_|refine jk ?_|refine jl ?_|refine jm ?_|refine jn ?_|refine jo ?_|refine jp ?_|refine jq ?_|refine jr ?_|refine js ?_|refine jt ?_|refine ju ?_|refine jv ?_|refine jw ?_|refine jx ?_|refine jy ?_|refine jz ?_|refine jA ?_|refine jB ?_|refine jC ?_|refine jD ?_|refine jE ?_|refine jF ?_|refine jG ?_|refine jH ?_|refine jI ?_|refine jJ ?_|refine jK ?_|refine jL ?_|refine jM (by assumption) ?_|refine jN (by assumption) rfl ?_|refine jO (by assumption) ?_|refine jP (by assumption) rfl ?_|refine jQ ?_|refine jR ?_|refine jS ?_|refine jT ?_|refine jU (by assumption) rfl ?_))
      rw [hp]
      exact ⟨_, rfl, b13, by omega, q⟩
    by_cases e12 : n.op = 12 ∨ n.op = 13 ∨ n.op = 14
    ·
      have hp : pcsN N n = [tP (([40, 105, 116, 101, 32, 40] : List UInt8) ++ opB n.op ++ ([32] : List UInt8)), iP n.a, tP (([32] : List UInt8)), iP n.b, tP (([41, 32, 40, 95, 32, 98, 118, 49, 32, 49, 41, 32, 40, 95, 32, 98, 118, 48, 32, 49, 41, 41] : List UInt8))] := by unfold pcsN; rw [if_neg e20, if_neg e21, if_pos e12]
      (repeat (first|refine ja ?_|refine jb ?_|refine jc ?_|refine jd ?_|refine je ?_|refine jf ?_|refine jg ?_|refine jh ?_|refine ji ?_|refine jj ?_|refine jk ?_|refine jl ?_|refine jm ?_|refine jn ?_|refine jo ?_|refine jp ?_|refine jq ?_|refine jr ?_|refine js ?_|refine jt ?_|refine ju ?_|refine jv ?_|refine jw ?_|refine jx ?_|refine jy ?_|refine jz ?_|refine jA ?_|refine jB ?_|refine jC ?_|refine jD ?_|refine jE ?_|refine jF ?_|refine jG ?_|refine jH ?_|refine jI ?_|refine jJ ?_|refine jK ?_|refine jL ?_|refine jM (by assumption) ?_|refine jN (by assumption) rfl ?_|refine jO (by assumption) ?_|refine jP (by assumption) rfl ?_|refine jQ ?_|refine jR ?_|refine jS ?_|refine jT ?_|refine jU (by assumption) rfl ?_))
      refine M.share_j (fun vals w' => vals = [.bool true] ∧ w' = w10) ?_ ?_
      case refine_2 =>
        intro K3 hK3
        rcases e12 with e | e | e
        all_goals
          (repeat (first|refine ja ?_|refine jb ?_|refine jc ?_|refine jd ?_|refine je ?_|refine jf ?_|refine jg ?_|refine jh ?_|refine ji ?_|refine jj ?_|refine jk ?_|refine jl ?_|refine jm ?_|refine jn ?_|refine jo ?_|refine jp ?_|refine jq ?_|refine jr ?_|refine js ?_|refine jt ?_|refine ju ?_|refine jv ?_|refine jw ?_|refine jx ?_|refine jy ?_|refine jz ?_|refine jA ?_|refine jB ?_|refine jC ?_|refine jD ?_|refine jE ?_|refine jF ?_|refine jG ?_|refine jH ?_|refine jI ?_|refine jJ ?_|refine jK ?_|refine jL ?_|refine jM (by assumption) ?_|refine jN (by assumption) rfl ?_|refine jO (by assumption) ?_|refine jP (by assumption) rfl ?_|refine jQ ?_|refine jR ?_|refine jS ?_|refine jT ?_|refine jU (by assumption) rfl ?_))
          exact hK3 _ _ ⟨rfl, rfl⟩
      case refine_1 =>
        rintro vals w9 ⟨rfl, rfl⟩ _
        simp only [List.getD_cons_zero, List.getD_cons_succ]
        (repeat (first|refine ja ?_|refine jb ?_|refine jc ?_|refine jd ?_|refine je ?_|refine jf ?_|refine jg ?_|refine jh ?_|refine ji ?_|refine jj ?_|refine jk ?_|refine jl ?_|refine jm ?_|refine jn ?_|refine jo ?_|refine jp ?_|refine jq ?_|refine jr ?_|refine js ?_|refine jt ?_|refine ju ?_|refine jv ?_|refine jw ?_|refine jx ?_|refine jy ?_|refine jz ?_|refine jA ?_|refine jB ?_|refine jC ?_|refine jD ?_|refine jE ?_|refine jF ?_|refine jG ?_|refine jH ?_|refine jI ?_|refine jJ ?_|refine jK ?_|refine jL ?_|refine jM (by assumption) ?_|refine jN (by assumption) rfl ?_|refine jO (by assumption) ?_|refine jP (by assumption) rfl ?_|refine jQ ?_|refine jR ?_|refine jS ?_|refine jT ?_|refine jU (by assumption) rfl ?_))
        have k11 := Keep.drew w9 No
        have z11 := k11.size
        have c0 := c0.keep k11 (fun h => h)
        have ca := ca.keep k11 (fun h => h)
        have cb := cb.keep k11 (fun h => h)
        have cc := cc.keep k11 (fun h => h)
        have c8 := c8.keep k11 (fun h => h)
        have c9 := c9.keep k11 (fun h => h)
        have q := q.trans k11 (fun _ _ h => h)
        (repeat (first|refine ja ?_|refine jb ?_|refine jc ?_|refine jd ?_|refine je ?_|refine jf ?_|refine jg ?_|refine jh ?_|refine ji ?_|refine jj ?_|refine jk ?_|refine jl ?_|refine jm ?_|refine jn ?_|refine jo ?_|refine jp ?_|refine jq ?_|refine jr ?_|refine js ?_|refine jt ?_|refine ju ?_|refine jv ?_|refine jw ?_|refine jx ?_|refine jy ?_|refine jz ?_|refine jA ?_|refine jB ?_|refine jC ?_|refine jD ?_|refine jE ?_|refine jF ?_|refine jG ?_|refine jH ?_|refine jI ?_|refine jJ ?_|refine jK ?_|refine jL ?_|refine jM (by assumption) ?_|refine jN (by assumption) rfl ?_|refine jO (by assumption) ?_|refine jP (by assumption) rfl ?_|refine jQ ?_|refine jR ?_|refine jS ?_|refine jT ?_|refine jU (by assumption) rfl ?_))
        repeat (first | refine M.loadAll_i ca rfl ?_ | refine M.loadAll_i cb rfl ?_ | refine M.loadAll_i cc rfl ?_ | refine M.loadAll_i c8 rfl ?_ | refine M.loadAll_i c9 rfl ?_)
        (repeat (first|refine ja ?_|refine jb ?_|refine jc ?_|refine jd ?_|refine je ?_|refine jf ?_|refine jg ?_|refine jh ?_|refine ji ?_|refine jj ?_|refine jk ?_|refine jl ?_|refine jm ?_|refine jn ?_|refine jo ?_|refine jp ?_|refine jq ?_|refine jr ?_|refine js ?_|refine jt ?_|refine ju ?_|refine jv ?_|refine jw ?_|refine jx ?_|refine jy ?_|refine jz ?_|refine jA ?_|refine jB ?_|refine jC ?_|refine jD ?_|refine jE ?_|refine jF ?_|refine jG ?_|refine jH ?_|refine jI ?_|refine jJ ?_|refine jK ?_|refine jL ?_|refine jM (by assumption) ?_|refine jN (by assumption) rfl ?_|refine jO (by assumption) ?_|refine jP (by assumption) rfl ?_|refine jQ ?_|refine jR ?_|refine jS ?_|refine jT ?_|refine jU (by assumption) rfl ?_))
        refine M.call_i (name_ret (op := n.op) (by omega) w9.drew) ?_; rintro _ w12 ⟨rfl, k12⟩
        have c0 := c0.keep k12 (fun h => h)
        have ca := ca.keep k12 (fun h => h)
        have cb := cb.keep k12 (fun h => h)
        have cc := cc.keep k12 (fun h => h)
        have c8 := c8.keep k12 (fun h => h)
        have c9 := c9.keep k12 (fun h => h)
        have q := q.trans k12 (fun _ _ h => h)
        (repeat (first|refine ja ?_|refine jb ?_|refine jc ?_|refine jd ?_|refine je ?_|refine jf ?_|refine jg ?_|refine jh ?_|refine ji ?_|refine jj ?_|refine jk ?_|refine jl ?_|refine jm ?_|refine jn ?_|refine jo ?_|refine jp ?_|refine jq ?_|refine jr ?_|refine js ?_|refine jt ?_|refine ju ?_|refine jv ?_|refine jw ?_|refine jx ?_|refine jy ?_|refine jz ?_|refine jA ?_|refine jB ?_|refine jC ?_|refine jD ?_|refine jE ?_|refine jF ?_|refine jG ?_|refine jH ?_|refine jI ?_|refine jJ ?_|refine jK ?_|refine jL ?_|refine jM (by assumption) ?_|refine jN (by assumption) rfl ?_|refine jO (by assumption) ?_|refine jP (by assumption) rfl ?_|refine jQ ?_|refine jR ?_|refine jS ?_|refine jT ?_|refine jU (by assumption) rfl ?_))
        refine M.str_i (by simp only [List.length_append, List.length_cons, List.length_nil]; omega) ?_
        (repeat (first|refine ja ?_|refine jb ?_|refine jc ?_|refine jd ?_|refine je ?_|refine jf ?_|refine jg ?_|refine jh ?_|refine ji ?_|refine jj ?_|refine jk ?_|refine jl ?_|refine jm ?_|refine jn ?_|refine jo ?_|refine jp ?_|refine jq ?_|refine jr ?_|refine js ?_|refine jt ?_|refine ju ?_|refine jv ?_|refine jw ?_|refine jx ?_|refine jy ?_|refine jz ?_|refine jA ?_|refine jB ?_|refine jC ?_|refine jD ?_|refine jE ?_|refine jF ?_|refine jG ?_|refine jH ?_|refine jI ?_|refine jJ ?_|refine jK ?_|refine jL ?_|refine jM (by assumption) ?_|refine jN (by assumption) rfl ?_|refine jO (by assumption) ?_|refine jP (by assumption) rfl ?_|refine jQ ?_|refine jR ?_|refine jS ?_|refine jT ?_|refine jU (by assumption) rfl ?_))
        refine M.str_i (by simp only [List.length_append, List.length_cons, List.length_nil]; omega) ?_
        (repeat (first|refine ja ?_|refine jb ?_|refine jc ?_|refine jd ?_|refine je ?_|refine jf ?_|refine jg ?_|refine jh ?_|refine ji ?_|refine jj ?_|refine jk ?_|refine jl ?_|refine jm ?_|refine jn ?_|refine jo ?_|refine jp ?_|refine jq ?_|refine jr ?_|refine js ?_|refine jt ?_|refine ju ?_|refine jv ?_|refine jw ?_|refine jx ?_|refine jy ?_|refine jz ?_|refine jA ?_|refine jB ?_|refine jC ?_|refine jD ?_|refine jE ?_|refine jF ?_|refine jG ?_|refine jH ?_|refine jI ?_|refine jJ ?_|refine jK ?_|refine jL ?_|refine jM (by assumption) ?_|refine jN (by assumption) rfl ?_|refine jO (by assumption) ?_|refine jP (by assumption) rfl ?_|refine jQ ?_|refine jR ?_|refine jS ?_|refine jT ?_|refine jU (by assumption) rfl ?_))
        refine M.call_i (text_ret _ w12) ?_; rintro _ w13 ⟨rfl, k13⟩
        have c0 := c0.keep k13 (fun h => h)
        have ca := ca.keep k13 (fun h => h)
        have cb := cb.keep k13 (fun h => h)
        have cc := cc.keep k13 (fun h => h)
        have c8 := c8.keep k13 (fun h => h)
        have c9 := c9.keep k13 (fun h => h)
        have q := q.trans k13 (fun _ _ h => h)
        (repeat (first|refine ja ?_|refine jb ?_|refine jc ?_|refine jd ?_|refine je ?_|refine jf ?_|refine jg ?_|refine jh ?_|refine ji ?_|refine jj ?_|refine jk ?_|refine jl ?_|refine jm ?_|refine jn ?_|refine jo ?_|refine jp ?_|refine jq ?_|refine jr ?_|refine js ?_|refine jt ?_|refine ju ?_|refine jv ?_|refine jw ?_|refine jx ?_|refine jy ?_|refine jz ?_|refine jA ?_|refine jB ?_|refine jC ?_|refine jD ?_|refine jE ?_|refine jF ?_|refine jG ?_|refine jH ?_|refine jI ?_|refine jJ ?_|refine jK ?_|refine jL ?_|refine jM (by assumption) ?_|refine jN (by assumption) rfl ?_|refine jO (by assumption) ?_|refine jP (by assumption) rfl ?_|refine jQ ?_|refine jR ?_|refine jS ?_|refine jT ?_|refine jU (by assumption) rfl ?_))
        refine M.call_i (text_ret ([41, 32, 40, 95, 32, 98, 118, 49, 32, 49, 41, 32, 40, 95, 32, 98, 118, 48, 32, 49, 41, 41] : List UInt8) w13) ?_; rintro _ w14 ⟨rfl, k14⟩
        have c0 := c0.keep k14 (fun h => h)
        have ca := ca.keep k14 (fun h => h)
        have cb := cb.keep k14 (fun h => h)
        have cc := cc.keep k14 (fun h => h)
        have c8 := c8.keep k14 (fun h => h)
        have c9 := c9.keep k14 (fun h => h)
        have q := q.trans k14 (fun _ _ h => h)
        (repeat (first|refine ja ?_|refine jb ?_|refine jc ?_|refine jd ?_|refine je ?_|refine jf ?_|refine jg ?_|refine jh ?_|refine ji ?_|refine jj ?_|refine jk ?_|refine jl ?_|refine jm ?_|refine jn ?_|refine jo ?_|refine jp ?_|refine jq ?_|refine jr ?_|refine js ?_|refine jt ?_|refine ju ?_|refine jv ?_|refine jw ?_|refine jx ?_|refine jy ?_|refine jz ?_|refine jA ?_|refine jB ?_|refine jC ?_|refine jD ?_|refine jE ?_|refine jF ?_|refine jG ?_|refine jH ?_|refine jI ?_|refine jJ ?_|refine jK ?_|refine jL ?_|refine jM (by assumption) ?_|refine jN (by assumption) rfl ?_|refine jO (by assumption) ?_|refine jP (by assumption) rfl ?_|refine jQ ?_|refine jR ?_|refine jS ?_|refine jT ?_|refine jU (by assumption) rfl ?_))
        have y15 := q.size
        refine M.buildSlice_i (([tP (([40, 105, 116, 101, 32, 40] : List UInt8) ++ opB n.op ++ ([32] : List UInt8)), iP n.a, tP (([32] : List UInt8)), iP n.b, tP (([41, 32, 40, 95, 32, 98, 118, 49, 32, 49, 41, 32, 40, 95, 32, 98, 118, 48, 32, 49, 41, 41] : List UInt8))]).flatMap Pc.cells) (by kernel_rfl) (fun w15 b15 k15 s15 => ?_)
        have c0 := c0.keep k15 (fun h => h)
        have ca := ca.keep k15 (fun h => h)
        have cb := cb.keep k15 (fun h => h)
        have cc := cc.keep k15 (fun h => h)
        have c8 := c8.keep k15 (fun h => h)
        have c9 := c9.keep k15 (fun h => h)
        have q := q.trans k15 (fun _ _ h => h)
        (repeat (first|refine ja ?_|refine jb ?_|refine jc ?_|refine jd ?_|refine je ?_|refine jf ?_|refine jg ?_|refine jh ?_|refine ji ?_|refine jj ?_|refine jk ?_|refine jl ?_|refine jm ?_|refine jn ?_|refine jo ?_|refine jp ?_|refine jq ?_|refine jr ?_|refine js ?_|refine jt ?_|refine ju ?_|refine jv ?_|refine jw ?_|refine jx ?_|refine jy ?_|refine jz ?_|refine jA ?_|refine jB ?_|refine jC ?_|refine jD ?_|refine jE ?_|refine jF ?_|refine jG ?_|refine jH ?_|refine jI ?_|refine jJ ?_|refine jK ?_|refine jL ?_|refine jM (by assumption) ?_|refine jN (by assumption) rfl ?_|refine jO (by assumption) ?_|refine jP (by assumption) rfl ?_|refine jQ ?_|refine jR ?_|refine jS ?_|refine jT ?_|refine jU (by assumption) rfl ?_))
        rw [hp]
        exact ⟨_, rfl, b15, by omega, q⟩
    (repeat (first|refine ja ?_|refine jb ?_|refine jc ?_|refine jd ?_|refine je ?_|refine jf ?_|refine jg ?_|refine jh ?_|refine ji ?_|refine jj ?_|refine jk ?_|refine jl ?_|refine jm ?_|refine jn ?_|refine jo ?_|refine jp ?_|refine jq ?_|refine jr ?_|refine js ?_|refine jt ?_|refine ju ?_|refine jv ?_|refine jw ?_|refine jx ?_|refine jy ?_|refine jz ?_|refine jA ?_|refine jB ?_|refine jC ?_|refine jD ?_|refine jE ?_|refine jF ?_|refine jG ?_|refine jH ?_|refine jI ?_|refine jJ ?_|refine jK ?_|refine jL ?_|refine jM (by assumption) ?_|refine jN (by assumption) rfl ?_|refine jO (by assumption) ?_|refine jP (by assumption) rfl ?_|refine jQ ?_|refine jR ?_|refine jS ?_|refine jT ?_|refine jU (by assumption) rfl ?_))
    refine M.share_j (fun vals w' => vals = [.bool false] ∧ w' = w10) ?_ ?_
    case refine_2 =>
      intro K3 hK3
      (repeat (first|refine ja ?_|refine jb ?_|refine jc ?_|refine jd ?_|refine je ?_|refine jf ?_|refine jg ?_|refine jh ?_|refine ji ?_|refine jj ?_|refine jk ?_|refine jl ?_|refine jm ?_|refine jn ?_|refine jo ?_|refine jp ?_|refine jq ?_|refine jr ?_|refine js ?_|refine jt ?_|refine ju ?_|refine jv ?_|refine jw ?_|refine jx ?_|refine jy ?_|refine jz ?_|refine jA ?_|refine jB ?_|refine jC ?_|refine jD ?_|refine jE ?_|refine jF ?_|refine jG ?_|refine jH ?_|refine jI ?_|refine jJ ?_|refine jK ?_|refine jL ?_|refine jM (by assumption) ?_|refine jN (by assumption) rfl ?_|refine jO (by assumption) ?_|refine jP (by assumption) rfl ?_|refine jQ ?_|refine jR ?_|refine jS ?_|refine jT ?_|refine jU (by assumption) rfl ?_))
      exact hK3 _ _ ⟨rfl, rfl⟩
    case refine_1 =>
      rintro vals w9 ⟨rfl, rfl⟩ _
      simp only [List.getD_cons_zero, List.getD_cons_succ]
      (repeat (first|refine ja ?_|refine jb ?_|refine jc ?_|refine jd ?_|refine je ?_|refine jf ?_|refine jg ?_|refine jh ?_|refine ji ?_|refine jj ?_|refine jk ?_|refine jl ?_|refine jm ?_|refine jn ?_|refine jo ?_|refine jp ?_|refine jq ?_|refine jr ?_|refine js ?_|refine jt ?_|refine ju ?_|refine jv ?_|refine jw ?_|refine jx ?_|refine jy ?_|refine jz ?_|refine jA ?_|refine jB ?_|refine jC ?_|refine jD ?_|refine jE ?_|refine jF ?_|refine jG ?_|refine jH ?_|refine jI ?_|refine jJ ?_|refine jK ?_|refine jL ?_|refine jM (by assumption) ?_|refine jN (by assumption) rfl ?_|refine jO (by assumption) ?_|refine jP (by assumption) rfl ?_|refine jQ ?_|refine jR ?_|refine jS ?_|refine jT ?_|refine jU (by assumption) rfl ?_))
      by_cases e15 : n.op = 15 ∨ n.op = 16
      ·
        have hp : pcsN N n = [tP (([40] : List UInt8) ++ opB n.op ++ ([32] : List UInt8)), iP n.a, tP (([41] : List UInt8))] := by unfold pcsN; rw [if_neg e20, if_neg e21, if_neg e12, if_pos e15]
        refine M.share_j (fun vals w' => vals = [.bool true] ∧ w' = w9) ?_ ?_
        case refine_2 =>
          intro K3 hK3
          rcases e15 with e | e
          all_goals
            (repeat (first|refine ja ?_|refine jb ?_|refine jc ?_|refine jd ?_|refine je ?_|refine jf ?_|refine jg ?_|refine jh ?_|refine ji ?_|refine jj ?_|refine jk ?_|refine jl ?_|refine jm ?_|refine jn ?_|refine jo ?_|refine jp ?_|refine jq ?_|refine jr ?_|refine js ?_|refine jt ?_|refine ju ?_|refine jv ?_|refine jw ?_|refine jx ?_|refine jy ?_|refine jz ?_|refine jA ?_|refine jB ?_|refine jC ?_|refine jD ?_|refine jE ?_|refine jF ?_|refine jG ?_|refine jH ?_|refine jI ?_|refine jJ ?_|refine jK ?_|refine jL ?_|refine jM (by assumption) ?_|refine jN (by assumption) rfl ?_|refine jO (by assumption) ?_|refine jP (by assumption) rfl ?_|refine jQ ?_|refine jR ?_|refine jS ?_|refine jT ?_|refine jU (by assumption) rfl ?_))
            exact hK3 _ _ ⟨rfl, rfl⟩
        case refine_1 =>
          rintro vals w9 ⟨rfl, rfl⟩ _
          simp only [List.getD_cons_zero, List.getD_cons_succ]
          (repeat (first|refine ja ?_|refine jb ?_|refine jc ?_|refine jd ?_|refine je ?_|refine jf ?_|refine jg ?_|refine jh ?_|refine ji ?_|refine jj ?_|refine jk ?_|refine jl ?_|refine jm ?_|refine jn ?_|refine jo ?_|refine jp ?_|refine jq ?_|refine jr ?_|refine js ?_|refine jt ?_|refine ju ?_|refine jv ?_|refine jw ?_|refine jx ?_|refine jy ?_|refine jz ?_|refine jA ?_|refine jB ?_|refine jC ?_|refine jD ?_|refine jE ?_|refine jF ?_|refine jG ?_|refine jH ?_|refine jI ?_|refine jJ ?_|refine jK ?_|refine jL ?_|refine jM (by assumption) ?_|refine jN (by assumption) rfl ?_|refine jO (by assumption) ?_|refine jP (by assumption) rfl ?_|refine jQ ?_|refine jR ?_|refine jS ?_|refine jT ?_|refine jU (by assumption) rfl ?_))
          have k11 := Keep.drew w9 No
          have z11 := k11.size
          have c0 := c0.keep k11 (fun h => h)
          have ca := ca.keep k11 (fun h => h)
          have cb := cb.keep k11 (fun h => h)
          have cc := cc.keep k11 (fun h => h)
          have c8 := c8.keep k11 (fun h => h)
          have c9 := c9.keep k11 (fun h => h)
          have q := q.trans k11 (fun _ _ h => h)
          (repeat (first|refine ja ?_|refine jb ?_|refine jc ?_|refine jd ?_|refine je ?_|refine jf ?_|refine jg ?_|refine jh ?_|refine ji ?_|refine jj ?_|refine jk ?_|refine jl ?_|refine jm ?_|refine jn ?_|refine jo ?_|refine jp ?_|refine jq ?_|refine jr ?_|refine js ?_|refine jt ?_|refine ju ?_|refine jv ?_|refine jw ?_|refine jx ?_|refine jy ?_|refine jz ?_|refine jA ?_|refine jB ?_|refine jC ?_|refine jD ?_|refine jE ?_|refine jF ?_|refine jG ?_|refine jH ?_|refine jI ?_|refine jJ ?_|refine jK ?_|refine jL ?_|refine jM (by assumption) ?_|refine jN (by assumption) rfl ?_|refine jO (by assumption) ?_|refine jP (by assumption) rfl ?_|refine jQ ?_|refine jR ?_|refine jS ?_|refine jT ?_|refine jU (by assumption) rfl ?_))
          repeat (first | refine M.loadAll_i ca rfl ?_ | refine M.loadAll_i cb rfl ?_ | refine M.loadAll_i cc rfl ?_ | refine M.loadAll_i c8 rfl ?_ | refine M.loadAll_i c9 rfl ?_)
          (repeat (first|refine ja ?_|refine jb ?_|refine jc ?_|refine jd ?_|refine je ?_|refine jf ?_|refine jg ?_|refine jh ?_|refine ji ?_|refine jj ?_|refine jk ?_|refine jl ?_|refine jm ?_|refine jn ?_|refine jo ?_|refine jp ?_|refine jq ?_|refine jr ?_|refine js ?_|refine jt ?_|refine ju ?_|refine jv ?_|refine jw ?_|refine jx ?_|refine jy ?_|refine jz ?_|refine jA ?_|refine jB ?_|refine jC ?_|refine jD ?_|refine jE ?_|refine jF ?_|refine jG ?_|refine jH ?_|refine jI ?_|refine jJ ?_|refine jK ?_|refine jL ?_|refine jM (by assumption) ?_|refine jN (by assumption) rfl ?_|refine jO (by assumption) ?_|refine jP (by assumption) rfl ?_|refine jQ ?_|refine jR ?_|refine jS ?_|refine jT ?_|refine jU (by assumption) rfl ?_))
          refine M.call_i (name_ret (op := n.op) (by omega) w9.drew) ?_; rintro _ w12 ⟨rfl, k12⟩
          have c0 := c0.keep k12 (fun h => h)
          have ca := ca.keep k12 (fun h => h)
          have cb := cb.keep k12 (fun h => h)
          have cc := cc.keep k12 (fun h => h)
          have c8 := c8.keep k12 (fun h => h)
          have c9 := c9.keep k12 (fun h => h)
          have q := q.trans k12 (fun _ _ h => h)
          (repeat (first|refine ja ?_|refine jb ?_|refine jc ?_|refine jd ?_|refine je ?_|refine jf ?_|refine jg ?_|refine jh ?_|refine ji ?_|refine jj ?_|refine jk ?_|refine jl ?_|refine jm ?_|refine jn ?_|refine jo ?_|refine jp ?_|refine jq ?_|refine jr ?_|refine js ?_|refine jt ?_|refine ju ?_|refine jv ?_|refine jw ?_|refine jx ?_|refine jy ?_|refine jz ?_|refine jA ?_|refine jB ?_|refine jC ?_|refine jD ?_|refine jE ?_|refine jF ?_|refine jG ?_|refine jH ?_|refine jI ?_|refine jJ ?_|refine jK ?_|refine jL ?_|refine jM (by assumption) ?_|refine jN (by assumption) rfl ?_|refine jO (by assumption) ?_|refine jP (by assumption) rfl ?_|refine jQ ?_|refine jR ?_|refine jS ?_|refine jT ?_|refine jU (by assumption) rfl ?_))
          refine M.str_i (by simp only [List.length_append, List.length_cons, List.length_nil]; omega) ?_
          (repeat (first|refine ja ?_|refine jb ?_|refine jc ?_|refine jd ?_|refine je ?_|refine jf ?_|refine jg ?_|refine jh ?_|refine ji ?_|refine jj ?_|refine jk ?_|refine jl ?_|refine jm ?_|refine jn ?_|refine jo ?_|refine jp ?_|refine jq ?_|refine jr ?_|refine js ?_|refine jt ?_|refine ju ?_|refine jv ?_|refine jw ?_|refine jx ?_|refine jy ?_|refine jz ?_|refine jA ?_|refine jB ?_|refine jC ?_|refine jD ?_|refine jE ?_|refine jF ?_|refine jG ?_|refine jH ?_|refine jI ?_|refine jJ ?_|refine jK ?_|refine jL ?_|refine jM (by assumption) ?_|refine jN (by assumption) rfl ?_|refine jO (by assumption) ?_|refine jP (by assumption) rfl ?_|refine jQ ?_|refine jR ?_|refine jS ?_|refine jT ?_|refine jU (by assumption) rfl ?_))
          refine M.str_i (by simp only [List.length_append, List.length_cons, List.length_nil]; omega) ?_
          (repeat (first|refine ja ?_|refine jb ?_|refine jc ?_|refine jd ?_|refine je ?_|refine jf ?_|refine jg ?_|refine jh ?_|refine ji ?_|refine jj ?_|refine jk ?_|refine jl ?_|refine jm ?_|refine jn ?_|refine jo ?_|refine jp ?_|refine jq ?_|refine jr ?_|refine js ?_|refine jt ?_|refine ju ?_|refine jv ?_|refine jw ?_|refine jx ?_|refine jy ?_|refine jz ?_|refine jA ?_|refine jB ?_|refine jC ?_|refine jD ?_|refine jE ?_|refine jF ?_|refine jG ?_|refine jH ?_|refine jI ?_|refine jJ ?_|refine jK ?_|refine jL ?_|refine jM (by assumption) ?_|refine jN (by assumption) rfl ?_|refine jO (by assumption) ?_|refine jP (by assumption) rfl ?_|refine jQ ?_|refine jR ?_|refine jS ?_|refine jT ?_|refine jU (by assumption) rfl ?_))
          refine M.call_i (text_ret _ w12) ?_; rintro _ w13 ⟨rfl, k13⟩
          have c0 := c0.keep k13 (fun h => h)
          have ca := ca.keep k13 (fun h => h)
          have cb := cb.keep k13 (fun h => h)
          have cc := cc.keep k13 (fun h => h)
          have c8 := c8.keep k13 (fun h => h)
          have c9 := c9.keep k13 (fun h => h)
          have q := q.trans k13 (fun _ _ h => h)
          (repeat (first|refine ja ?_|refine jb ?_|refine jc ?_|refine jd ?_|refine je ?_|refine jf ?_|refine jg ?_|refine jh ?_|refine ji ?_|refine jj ?_|refine jk ?_|refine jl ?_|refine jm ?_|refine jn ?_|refine jo ?_|refine jp ?_|refine jq ?_|refine jr ?_|refine js ?_|refine jt ?_|refine ju ?_|refine jv ?_|refine jw ?_|refine jx ?_|refine jy ?_|refine jz ?_|refine jA ?_|refine jB ?_|refine jC ?_|refine jD ?_|refine jE ?_|refine jF ?_|refine jG ?_|refine jH ?_|refine jI ?_|refine jJ ?_|refine jK ?_|refine jL ?_|refine jM (by assumption) ?_|refine jN (by assumption) rfl ?_|refine jO (by assumption) ?_|refine jP (by assumption) rfl ?_|refine jQ ?_|refine jR ?_|refine jS ?_|refine jT ?_|refine jU (by assumption) rfl ?_))
          have y14 := q.size
          refine M.buildSlice_i (([tP (([40] : List UInt8) ++ opB n.op ++ ([32] : List UInt8)), iP n.a, tP (([41] : List UInt8))]).flatMap Pc.cells) (by kernel_rfl) (fun w14 b14 k14 s14 => ?_)
          have c0 := c0.keep k14 (fun h => h)
          have ca := ca.keep k14 (fun h => h)
          have cb := cb.keep k14 (fun h => h)
          have cc := cc.keep k14 (fun h => h)
          have c8 := c8.keep k14 (fun h => h)
          have c9 := c9.keep k14 (fun h => h)
          have q := q.trans k14 (fun _ _ h => h)
          (repeat (first|refine ja ?_|refine jb ?_|refine jc ?_|refine jd ?_|refine je ?_|refine jf ?_|refine jg ?_|refine jh ?_|refine ji ?_|refine jj ?_|refine jk ?_|refine jl ?_|refine jm ?_|refine jn ?_|refine jo ?_|refine jp ?_|refine jq ?_|refine jr ?_|refine js ?_|refine jt ?_|refine ju ?_|refine jv ?_|refine jw ?_|refine jx ?_|refine jy ?_|refine jz ?_|refine jA ?_|refine jB ?_|refine jC ?_|refine jD ?_|refine jE ?_|refine jF ?_|refine jG ?_|refine jH ?_|refine jI ?_|refine jJ ?_|refine jK ?_|refine jL ?_|refine jM (by assumption) ?_|refine jN (by assumption) rfl ?_|refine jO (by assumption) ?_|refine jP (by assumption) rfl ?_|refine jQ ?_|refine jR ?_|refine jS ?_|refine jT ?_|refine jU (by assumption) rfl ?_))
          rw [hp]
          exact ⟨_, rfl, b14, by omega, q⟩
      refine M.share_j (fun vals w' => vals = [.bool false] ∧ w' = w9) ?_ ?_
      case refine_2 =>
        intro K3 hK3
        (repeat (first|refine ja ?_|refine jb ?_|refine jc ?_|refine jd ?_|refine je ?_|refine jf ?_|refine jg ?_|refine jh ?_|refine ji ?_|refine jj ?_|refine jk ?_|refine jl ?_|refine jm ?_|refine jn ?_|refine jo ?_|refine jp ?_|refine jq ?_|refine jr ?_|refine js ?_|refine jt ?_|refine ju ?_|refine jv ?_|refine jw ?_|refine jx ?_|refine jy ?_|refine jz ?_|refine jA ?_|refine jB ?_|refine jC ?_|refine jD ?_|refine jE ?_|refine jF ?_|refine jG ?_|refine jH ?_|refine jI ?_|refine jJ ?_|refine jK ?_|refine jL ?_|refine jM (by assumption) ?_|refine jN (by assumption) rfl ?_|refine jO (by assumption) ?_|refine jP (by assumption) rfl ?_|refine jQ ?_|refine jR ?_|refine jS ?_|refine jT ?_|refine jU (by assumption) rfl ?_))
        exact hK3 _ _ ⟨rfl, rfl⟩
      case refine_1 =>
        rintro vals w9 ⟨rfl, rfl⟩ _
        simp only [List.getD_cons_zero, List.getD_cons_succ]
        by_cases e22 : n.op = 22
        ·
          have hp : pcsN N n = [tP (([40, 105, 116, 101, 32, 40, 61, 32] : List UInt8)), iP n.a, tP (([32, 40, 95, 32, 98, 118, 49, 32, 49, 41, 41, 32] : List UInt8)), iP n.b, tP (([32] : List UInt8)), iP n.c, tP (([41] : List UInt8))] := by unfold pcsN; rw [if_neg e20, if_neg e21, if_neg e12, if_neg e15, if_pos e22]
          (repeat (first|refine ja ?_|refine jb ?_|refine jc ?_|refine jd ?_|refine je ?_|refine jf ?_|refine jg ?_|refine jh ?_|refine ji ?_|refine jj ?_|refine jk ?_|refine jl ?_|refine jm ?_|refine jn ?_|refine jo ?_|refine jp ?_|refine jq ?_|refine jr ?_|refine js ?_|refine jt ?_|refine ju ?_|refine jv ?_|refine jw ?_|refine jx ?_|refine jy ?_|refine jz ?_|refine jA ?_|refine jB ?_|refine jC ?_|refine jD ?_|refine jE ?_|refine jF ?_|refine jG ?_|refine jH ?_|refine jI ?_|refine jJ ?_|refine jK ?_|refine jL ?_|refine jM (by assumption) ?_|refine jN (by assumption) rfl ?_|refine jO (by assumption) ?_|refine jP (by assumption) rfl ?_|refine jQ ?_|refine jR ?_|refine jS ?_|refine jT ?_|refine jU (by assumption) rfl ?_))
          have k11 := Keep.drew w9 No
          have z11 := k11.size
          have c0 := c0.keep k11 (fun h => h)
          have ca := ca.keep k11 (fun h => h)
          have cb := cb.keep k11 (fun h => h)
          have cc := cc.keep k11 (fun h => h)
          have c8 := c8.keep k11 (fun h => h)
          have c9 := c9.keep k11 (fun h => h)
          have q := q.trans k11 (fun _ _ h => h)
          (repeat (first|refine ja ?_|refine jb ?_|refine jc ?_|refine jd ?_|refine je ?_|refine jf ?_|refine jg ?_|refine jh ?_|refine ji ?_|refine jj ?_|refine jk ?_|refine jl ?_|refine jm ?_|refine jn ?_|refine jo ?_|refine jp ?_|refine jq ?_|refine jr ?_|refine js ?_|refine jt ?_|refine ju ?_|refine jv ?_|refine jw ?_|refine jx ?_|refine jy ?_|refine jz ?_|refine jA ?_|refine jB ?_|refine jC ?_|refine jD ?_|refine jE ?_|refine jF ?_|refine jG ?_|refine jH ?_|refine jI ?_|refine jJ ?_|refine jK ?_|refine jL ?_|refine jM (by assumption) ?_|refine jN (by assumption) rfl ?_|refine jO (by assumption) ?_|refine jP (by assumption) rfl ?_|refine jQ ?_|refine jR ?_|refine jS ?_|refine jT ?_|refine jU (by assumption) rfl ?_))
          repeat (first | refine M.loadAll_i ca rfl ?_ | refine M.loadAll_i cb rfl ?_ | refine M.loadAll_i cc rfl ?_ | refine M.loadAll_i c8 rfl ?_ | refine M.loadAll_i c9 rfl ?_)
          (repeat (first|refine ja ?_|refine jb ?_|refine jc ?_|refine jd ?_|refine je ?_|refine jf ?_|refine jg ?_|refine jh ?_|refine ji ?_|refine jj ?_|refine jk ?_|refine jl ?_|refine jm ?_|refine jn ?_|refine jo ?_|refine jp ?_|refine jq ?_|refine jr ?_|refine js ?_|refine jt ?_|refine ju ?_|refine jv ?_|refine jw ?_|refine jx ?_|refine jy ?_|refine jz ?_|refine jA ?_|refine jB ?_|refine jC ?_|refine jD ?_|refine jE ?_|refine jF ?_|refine jG ?_|refine jH ?_|refine jI ?_|refine jJ ?_|refine jK ?_|refine jL ?_|refine jM (by assumption) ?_|refine jN (by assumption) rfl ?_|refine jO (by assumption) ?_|refine jP (by assumption) rfl ?_|refine jQ ?_|refine jR ?_|refine jS ?_|refine jT ?_|refine jU (by assumption) rfl ?_))
          refine M.call_i (text_ret ([40, 105, 116, 101, 32, 40, 61, 32] : List UInt8) w9.drew) ?_; rintro _ w12 ⟨rfl, k12⟩
          have c0 := c0.keep k12 (fun h => h)
          have ca := ca.keep k12 (fun h => h)
          have cb := cb.keep k12 (fun h => h)
          have cc := cc.keep k12 (fun h => h)
          have c8 := c8.keep k12 (fun h => h)
          have c9 := c9.keep k12 (fun h => h)
          have q := q.trans k12 (fun _ _ h => h)
          (repeat (first|refine ja ?_|refine jb ?_|refine jc ?_|refine jd ?_|refine je ?_|refine jf ?_|refine jg ?_|refine jh ?_|refine ji ?_|refine jj ?_|refine jk ?_|refine jl ?_|refine jm ?_|refine jn ?_|refine jo ?_|refine jp ?_|refine jq ?_|refine jr ?_|refine js ?_|refine jt ?_|refine ju ?_|refine jv ?_|refine jw ?_|refine jx ?_|refine jy ?_|refine jz ?_|refine jA ?_|refine jB ?_|refine jC ?_|refine jD ?_|refine jE ?_|refine jF ?_|refine jG ?_|refine jH ?_|refine jI ?_|refine jJ ?_|refine jK ?_|refine jL ?_|refine jM (by assumption) ?_|refine jN (by assumption) rfl ?_|refine jO (by assumption) ?_|refine jP (by assumption) rfl ?_|refine jQ ?_|refine jR ?_|refine jS ?_|refine jT ?_|refine jU (by assumption) rfl ?_))
          refine M.call_i (text_ret ([32, 40, 95, 32, 98, 118, 49, 32, 49, 41, 41, 32] : List UInt8) w12) ?_; rintro _ w13 ⟨rfl, k13⟩
          have c0 := c0.keep k13 (fun h => h)
          have ca := ca.keep k13 (fun h => h)
          have cb := cb.keep k13 (fun h => h)
          have cc := cc.keep k13 (fun h => h)
          have c8 := c8.keep k13 (fun h => h)
          have c9 := c9.keep k13 (fun h => h)
          have q := q.trans k13 (fun _ _ h => h)
          (repeat (first|refine ja ?_|refine jb ?_|refine jc ?_|refine jd ?_|refine je ?_|refine jf ?_|refine jg ?_|refine jh ?_|refine ji ?_|refine jj ?_|refine jk ?_|refine jl ?_|refine jm ?_|refine jn ?_|refine jo ?_|refine jp ?_|refine jq ?_|refine jr ?_|refine js ?_|refine jt ?_|refine ju ?_|refine jv ?_|refine jw ?_|refine jx ?_|refine jy ?_|refine jz ?_|refine jA ?_|refine jB ?_|refine jC ?_|refine jD ?_|refine jE ?_|refine jF ?_|refine jG ?_|refine jH ?_|refine jI ?_|refine jJ ?_|refine jK ?_|refine jL ?_|refine jM (by assumption) ?_|refine jN (by assumption) rfl ?_|refine jO (by assumption) ?_|refine jP (by assumption) rfl ?_|refine jQ ?_|refine jR ?_|refine jS ?_|refine jT ?_|refine jU (by assumption) rfl ?_))
          have y14 := q.size
          refine M.buildSlice_i (([tP (([40, 105, 116, 101, 32, 40, 61, 32] : List UInt8)), iP n.a, tP (([32, 40, 95, 32, 98, 118, 49, 32, 49, 41, 41, 32] : List UInt8)), iP n.b, tP (([32] : List UInt8)), iP n.c, tP (([41] : List UInt8))]).flatMap Pc.cells) (by kernel_rfl) (fun w14 b14 k14 s14 => ?_)
          have c0 := c0.keep k14 (fun h => h)
          have ca := ca.keep k14 (fun h => h)
          have cb := cb.keep k14 (fun h => h)
          have cc := cc.keep k14 (fun h => h)
          have c8 := c8.keep k14 (fun h => h)
          have c9 := c9.keep k14 (fun h => h)
          have q := q.trans k14 (fun _ _ h => h)
          (repeat (first|refine ja ?_|refine jb ?_|refine jc ?_|refine jd ?_|refine je ?_|refine jf ?_|refine jg ?_|refine jh ?_|refine ji ?_|refine jj ?_|refine jk ?_|refine jl ?_|refine jm ?_|refine jn ?_|refine jo ?_|refine jp ?_|refine jq ?_|refine jr ?_|refine js ?_|refine jt ?_|refine ju ?_|refine jv ?_|refine jw ?_|refine jx ?_|refine jy ?_|refine jz ?_|refine jA ?_|refine jB ?_|refine jC ?_|refine jD ?_|refine jE ?_|refine jF ?_|refine jG ?_|refine jH ?_|refine jI ?_|refine jJ ?_|refine jK ?_|refine jL ?_|refine jM (by assumption) ?_|refine jN (by assumption) rfl ?_|refine jO (by assumption) ?_|refine jP (by assumption) rfl ?_|refine jQ ?_|refine jR ?_|refine jS ?_|refine jT ?_|refine jU (by assumption) rfl ?_))
          rw [hp]
          exact ⟨_, rfl, b14, by omega, q⟩
        by_cases e23 : n.op = 23
        ·
          have hp : pcsN N n = [tP (([40, 40, 95, 32, 101, 120, 116, 114, 97, 99, 116, 32] : List UInt8) ++ numB (n.b + n.wd - 1) ++ ([32] : List UInt8) ++ numB n.b ++ ([41, 32] : List UInt8)), iP n.a, tP (([41] : List UInt8))] := by unfold pcsN; rw [if_neg e20, if_neg e21, if_neg e12, if_neg e15, if_neg e22, if_pos e23]
          have hb := hb23 e23
          (repeat (first|refine ja ?_|refine jb ?_|refine jc ?_|refine jd ?_|refine je ?_|refine jf ?_|refine jg ?_|refine jh ?_|refine ji ?_|refine jj ?_|refine jk ?_|refine jl ?_|refine jm ?_|refine jn ?_|refine jo ?_|refine jp ?_|refine jq ?_|refine jr ?_|refine js ?_|refine jt ?_|refine ju ?_|refine jv ?_|refine jw ?_|refine jx ?_|refine jy ?_|refine jz ?_|refine jA ?_|refine jB ?_|refine jC ?_|refine jD ?_|refine jE ?_|refine jF ?_|refine jG ?_|refine jH ?_|refine jI ?_|refine jJ ?_|refine jK ?_|refine jL ?_|refine jM (by assumption) ?_|refine jN (by assumption) rfl ?_|refine jO (by assumption) ?_|refine jP (by assumption) rfl ?_|refine jQ ?_|refine jR ?_|refine jS ?_|refine jT ?_|refine jU (by assumption) rfl ?_))
          have k11 := Keep.drew w9 No
          have z11 := k11.size
          have c0 := c0.keep k11 (fun h => h)
          have ca := ca.keep k11 (fun h => h)
          have cb := cb.keep k11 (fun h => h)
          have cc := cc.keep k11 (fun h => h)
          have c8 := c8.keep k11 (fun h => h)
          have c9 := c9.keep k11 (fun h => h)
          have q := q.trans k11 (fun _ _ h => h)
          (repeat (first|refine ja ?_|refine jb ?_|refine jc ?_|refine jd ?_|refine je ?_|refine jf ?_|refine jg ?_|refine jh ?_|refine ji ?_|refine jj ?_|refine jk ?_|refine jl ?_|refine jm ?_|refine jn ?_|refine jo ?_|refine jp ?_|refine jq ?_|refine jr ?_|refine js ?_|refine jt ?_|refine ju ?_|refine jv ?_|refine jw ?_|refine jx ?_|refine jy ?_|refine jz ?_|refine jA ?_|refine jB ?_|refine jC ?_|refine jD ?_|refine jE ?_|refine jF ?_|refine jG ?_|refine jH ?_|refine jI ?_|refine jJ ?_|refine jK ?_|refine jL ?_|refine jM (by assumption) ?_|refine jN (by assumption) rfl ?_|refine jO (by assumption) ?_|refine jP (by assumption) rfl ?_|refine jQ ?_|refine jR ?_|refine jS ?_|refine jT ?_|refine jU (by assumption) rfl ?_))
          repeat (first | refine M.loadAll_i ca rfl ?_ | refine M.loadAll_i cb rfl ?_ | refine M.loadAll_i cc rfl ?_ | refine M.loadAll_i c8 rfl ?_ | refine M.loadAll_i c9 rfl ?_)
          (repeat (first|refine ja ?_|refine jb ?_|refine jc ?_|refine jd ?_|refine je ?_|refine jf ?_|refine jg ?_|refine jh ?_|refine ji ?_|refine jj ?_|refine jk ?_|refine jl ?_|refine jm ?_|refine jn ?_|refine jo ?_|refine jp ?_|refine jq ?_|refine jr ?_|refine js ?_|refine jt ?_|refine ju ?_|refine jv ?_|refine jw ?_|refine jx ?_|refine jy ?_|refine jz ?_|refine jA ?_|refine jB ?_|refine jC ?_|refine jD ?_|refine jE ?_|refine jF ?_|refine jG ?_|refine jH ?_|refine jI ?_|refine jJ ?_|refine jK ?_|refine jL ?_|refine jM (by assumption) ?_|refine jN (by assumption) rfl ?_|refine jO (by assumption) ?_|refine jP (by assumption) rfl ?_|refine jQ ?_|refine jR ?_|refine jS ?_|refine jT ?_|refine jU (by assumption) rfl ?_))
          refine M.call_i (number_ret _ w9.drew) ?_; rintro _ w12 ⟨rfl, k12⟩
          have c0 := c0.keep k12 (fun h => h)
          have ca := ca.keep k12 (fun h => h)
          have cb := cb.keep k12 (fun h => h)
          have cc := cc.keep k12 (fun h => h)
          have c8 := c8.keep k12 (fun h => h)
          have c9 := c9.keep k12 (fun h => h)
          have q := q.trans k12 (fun _ _ h => h)
          (repeat (first|refine ja ?_|refine jb ?_|refine jc ?_|refine jd ?_|refine je ?_|refine jf ?_|refine jg ?_|refine jh ?_|refine ji ?_|refine jj ?_|refine jk ?_|refine jl ?_|refine jm ?_|refine jn ?_|refine jo ?_|refine jp ?_|refine jq ?_|refine jr ?_|refine js ?_|refine jt ?_|refine ju ?_|refine jv ?_|refine jw ?_|refine jx ?_|refine jy ?_|refine jz ?_|refine jA ?_|refine jB ?_|refine jC ?_|refine jD ?_|refine jE ?_|refine jF ?_|refine jG ?_|refine jH ?_|refine jI ?_|refine jJ ?_|refine jK ?_|refine jL ?_|refine jM (by assumption) ?_|refine jN (by assumption) rfl ?_|refine jO (by assumption) ?_|refine jP (by assumption) rfl ?_|refine jQ ?_|refine jR ?_|refine jS ?_|refine jT ?_|refine jU (by assumption) rfl ?_))
          refine M.str_i (by simp only [List.length_append, List.length_cons, List.length_nil]; omega) ?_
          (repeat (first|refine ja ?_|refine jb ?_|refine jc ?_|refine jd ?_|refine je ?_|refine jf ?_|refine jg ?_|refine jh ?_|refine ji ?_|refine jj ?_|refine jk ?_|refine jl ?_|refine jm ?_|refine jn ?_|refine jo ?_|refine jp ?_|refine jq ?_|refine jr ?_|refine js ?_|refine jt ?_|refine ju ?_|refine jv ?_|refine jw ?_|refine jx ?_|refine jy ?_|refine jz ?_|refine jA ?_|refine jB ?_|refine jC ?_|refine jD ?_|refine jE ?_|refine jF ?_|refine jG ?_|refine jH ?_|refine jI ?_|refine jJ ?_|refine jK ?_|refine jL ?_|refine jM (by assumption) ?_|refine jN (by assumption) rfl ?_|refine jO (by assumption) ?_|refine jP (by assumption) rfl ?_|refine jQ ?_|refine jR ?_|refine jS ?_|refine jT ?_|refine jU (by assumption) rfl ?_))
          refine M.str_i (by simp only [List.length_append, List.length_cons, List.length_nil]; omega) ?_
          (repeat (first|refine ja ?_|refine jb ?_|refine jc ?_|refine jd ?_|refine je ?_|refine jf ?_|refine jg ?_|refine jh ?_|refine ji ?_|refine jj ?_|refine jk ?_|refine jl ?_|refine jm ?_|refine jn ?_|refine jo ?_|refine jp ?_|refine jq ?_|refine jr ?_|refine js ?_|refine jt ?_|refine ju ?_|refine jv ?_|refine jw ?_|refine jx ?_|refine jy ?_|refine jz ?_|refine jA ?_|refine jB ?_|refine jC ?_|refine jD ?_|refine jE ?_|refine jF ?_|refine jG ?_|refine jH ?_|refine jI ?_|refine jJ ?_|refine jK ?_|refine jL ?_|refine jM (by assumption) ?_|refine jN (by assumption) rfl ?_|refine jO (by assumption) ?_|refine jP (by assumption) rfl ?_|refine jQ ?_|refine jR ?_|refine jS ?_|refine jT ?_|refine jU (by assumption) rfl ?_))
          refine M.call_i (number_ret _ w12) ?_; rintro _ w13 ⟨rfl, k13⟩
          have c0 := c0.keep k13 (fun h => h)
          have ca := ca.keep k13 (fun h => h)
          have cb := cb.keep k13 (fun h => h)
          have cc := cc.keep k13 (fun h => h)
          have c8 := c8.keep k13 (fun h => h)
          have c9 := c9.keep k13 (fun h => h)
          have q := q.trans k13 (fun _ _ h => h)
          (repeat (first|refine ja ?_|refine jb ?_|refine jc ?_|refine jd ?_|refine je ?_|refine jf ?_|refine jg ?_|refine jh ?_|refine ji ?_|refine jj ?_|refine jk ?_|refine jl ?_|refine jm ?_|refine jn ?_|refine jo ?_|refine jp ?_|refine jq ?_|refine jr ?_|refine js ?_|refine jt ?_|refine ju ?_|refine jv ?_|refine jw ?_|refine jx ?_|refine jy ?_|refine jz ?_|refine jA ?_|refine jB ?_|refine jC ?_|refine jD ?_|refine jE ?_|refine jF ?_|refine jG ?_|refine jH ?_|refine jI ?_|refine jJ ?_|refine jK ?_|refine jL ?_|refine jM (by assumption) ?_|refine jN (by assumption) rfl ?_|refine jO (by assumption) ?_|refine jP (by assumption) rfl ?_|refine jQ ?_|refine jR ?_|refine jS ?_|refine jT ?_|refine jU (by assumption) rfl ?_))
          refine M.str_i (by simp only [List.length_append, List.length_cons, List.length_nil]; omega) ?_
          (repeat (first|refine ja ?_|refine jb ?_|refine jc ?_|refine jd ?_|refine je ?_|refine jf ?_|refine jg ?_|refine jh ?_|refine ji ?_|refine jj ?_|refine jk ?_|refine jl ?_|refine jm ?_|refine jn ?_|refine jo ?_|refine jp ?_|refine jq ?_|refine jr ?_|refine js ?_|refine jt ?_|refine ju ?_|refine jv ?_|refine jw ?_|refine jx ?_|refine jy ?_|refine jz ?_|refine jA ?_|refine jB ?_|refine jC ?_|refine jD ?_|refine jE ?_|refine jF ?_|refine jG ?_|refine jH ?_|refine jI ?_|refine jJ ?_|refine jK ?_|refine jL ?_|refine jM (by assumption) ?_|refine jN (by assumption) rfl ?_|refine jO (by assumption) ?_|refine jP (by assumption) rfl ?_|refine jQ ?_|refine jR ?_|refine jS ?_|refine jT ?_|refine jU (by assumption) rfl ?_))
          refine M.str_i (by simp only [List.length_append, List.length_cons, List.length_nil]; omega) ?_
          (repeat (first|refine ja ?_|refine jb ?_|refine jc ?_|refine jd ?_|refine je ?_|refine jf ?_|refine jg ?_|refine jh ?_|refine ji ?_|refine jj ?_|refine jk ?_|refine jl ?_|refine jm ?_|refine jn ?_|refine jo ?_|refine jp ?_|refine jq ?_|refine jr ?_|refine js ?_|refine jt ?_|refine ju ?_|refine jv ?_|refine jw ?_|refine jx ?_|refine jy ?_|refine jz ?_|refine jA ?_|refine jB ?_|refine jC ?_|refine jD ?_|refine jE ?_|refine jF ?_|refine jG ?_|refine jH ?_|refine jI ?_|refine jJ ?_|refine jK ?_|refine jL ?_|refine jM (by assumption) ?_|refine jN (by assumption) rfl ?_|refine jO (by assumption) ?_|refine jP (by assumption) rfl ?_|refine jQ ?_|refine jR ?_|refine jS ?_|refine jT ?_|refine jU (by assumption) rfl ?_))
          refine M.call_i (text_ret _ w13) ?_; rintro _ w14 ⟨rfl, k14⟩
          have c0 := c0.keep k14 (fun h => h)
          have ca := ca.keep k14 (fun h => h)
          have cb := cb.keep k14 (fun h => h)
          have cc := cc.keep k14 (fun h => h)
          have c8 := c8.keep k14 (fun h => h)
          have c9 := c9.keep k14 (fun h => h)
          have q := q.trans k14 (fun _ _ h => h)
          (repeat (first|refine ja ?_|refine jb ?_|refine jc ?_|refine jd ?_|refine je ?_|refine jf ?_|refine jg ?_|refine jh ?_|refine ji ?_|refine jj ?_|refine jk ?_|refine jl ?_|refine jm ?_|refine jn ?_|refine jo ?_|refine jp ?_|refine jq ?_|refine jr ?_|refine js ?_|refine jt ?_|refine ju ?_|refine jv ?_|refine jw ?_|refine jx ?_|refine jy ?_|refine jz ?_|refine jA ?_|refine jB ?_|refine jC ?_|refine jD ?_|refine jE ?_|refine jF ?_|refine jG ?_|refine jH ?_|refine jI ?_|refine jJ ?_|refine jK ?_|refine jL ?_|refine jM (by assumption) ?_|refine jN (by assumption) rfl ?_|refine jO (by assumption) ?_|refine jP (by assumption) rfl ?_|refine jQ ?_|refine jR ?_|refine jS ?_|refine jT ?_|refine jU (by assumption) rfl ?_))
          have y15 := q.size
          refine M.buildSlice_i (([tP (([40, 40, 95, 32, 101, 120, 116, 114, 97, 99, 116, 32] : List UInt8) ++ numB (n.b + n.wd - 1) ++ ([32] : List UInt8) ++ numB n.b ++ ([41, 32] : List UInt8)), iP n.a, tP (([41] : List UInt8))]).flatMap Pc.cells) (by kernel_rfl) (fun w15 b15 k15 s15 => ?_)
          have c0 := c0.keep k15 (fun h => h)
          have ca := ca.keep k15 (fun h => h)
          have cb := cb.keep k15 (fun h => h)
          have cc := cc.keep k15 (fun h => h)
          have c8 := c8.keep k15 (fun h => h)
          have c9 := c9.keep k15 (fun h => h)
          have q := q.trans k15 (fun _ _ h => h)
          (repeat (first|refine ja ?_|refine jb ?_|refine jc ?_|refine jd ?_|refine je ?_|refine jf ?_|refine jg ?_|refine jh ?_|refine ji ?_|refine jj ?_|refine jk ?_|refine jl ?_|refine jm ?_|refine jn ?_|refine jo ?_|refine jp ?_|refine jq ?_|refine jr ?_|refine js ?_|refine jt ?_|refine ju ?_|refine jv ?_|refine jw ?_|refine jx ?_|refine jy ?_|refine jz ?_|refine jA ?_|refine jB ?_|refine jC ?_|refine jD ?_|refine jE ?_|refine jF ?_|refine jG ?_|refine jH ?_|refine jI ?_|refine jJ ?_|refine jK ?_|refine jL ?_|refine jM (by assumption) ?_|refine jN (by assumption) rfl ?_|refine jO (by assumption) ?_|refine jP (by assumption) rfl ?_|refine jQ ?_|refine jR ?_|refine jS ?_|refine jT ?_|refine jU (by assumption) rfl ?_))
          rw [hp]
          exact ⟨_, rfl, b15, by omega, q⟩
        by_cases e25 : n.op = 25
        ·
          have hp : pcsN N n = [tP (([40, 40, 95, 32, 122, 101, 114, 111, 95, 101, 120, 116, 101, 110, 100, 32] : List UInt8) ++ numB (n.wd - wdN N n.a) ++ ([41, 32] : List UInt8)), iP n.a, tP (([41] : List UInt8))] := by unfold pcsN; rw [if_neg e20, if_neg e21, if_neg e12, if_neg e15, if_neg e22, if_neg e23, if_pos e25]
          (repeat (first|refine ja ?_|refine jb ?_|refine jc ?_|refine jd ?_|refine je ?_|refine jf ?_|refine jg ?_|refine jh ?_|refine ji ?_|refine jj ?_|refine jk ?_|refine jl ?_|refine jm ?_|refine jn ?_|refine jo ?_|refine jp ?_|refine jq ?_|refine jr ?_|refine js ?_|refine jt ?_|refine ju ?_|refine jv ?_|refine jw ?_|refine jx ?_|refine jy ?_|refine jz ?_|refine jA ?_|refine jB ?_|refine jC ?_|refine jD ?_|refine jE ?_|refine jF ?_|refine jG ?_|refine jH ?_|refine jI ?_|refine jJ ?_|refine jK ?_|refine jL ?_|refine jM (by assumption) ?_|refine jN (by assumption) rfl ?_|refine jO (by assumption) ?_|refine jP (by assumption) rfl ?_|refine jQ ?_|refine jR ?_|refine jS ?_|refine jT ?_|refine jU (by assumption) rfl ?_))
          have k11 := Keep.drew w9 No
          have z11 := k11.size
          have c0 := c0.keep k11 (fun h => h)
          have ca := ca.keep k11 (fun h => h)
          have cb := cb.keep k11 (fun h => h)
          have cc := cc.keep k11 (fun h => h)
          have c8 := c8.keep k11 (fun h => h)
          have c9 := c9.keep k11 (fun h => h)
          have q := q.trans k11 (fun _ _ h => h)
          (repeat (first|refine ja ?_|refine jb ?_|refine jc ?_|refine jd ?_|refine je ?_|refine jf ?_|refine jg ?_|refine jh ?_|refine ji ?_|refine jj ?_|refine jk ?_|refine jl ?_|refine jm ?_|refine jn ?_|refine jo ?_|refine jp ?_|refine jq ?_|refine jr ?_|refine js ?_|refine jt ?_|refine ju ?_|refine jv ?_|refine jw ?_|refine jx ?_|refine jy ?_|refine jz ?_|refine jA ?_|refine jB ?_|refine jC ?_|refine jD ?_|refine jE ?_|refine jF ?_|refine jG ?_|refine jH ?_|refine jI ?_|refine jJ ?_|refine jK ?_|refine jL ?_|refine jM (by assumption) ?_|refine jN (by assumption) rfl ?_|refine jO (by assumption) ?_|refine jP (by assumption) rfl ?_|refine jQ ?_|refine jR ?_|refine jS ?_|refine jT ?_|refine jU (by assumption) rfl ?_))
          repeat (first | refine M.loadAll_i ca rfl ?_ | refine M.loadAll_i cb rfl ?_ | refine M.loadAll_i cc rfl ?_ | refine M.loadAll_i c8 rfl ?_ | refine M.loadAll_i c9 rfl ?_)
          (repeat (first|refine ja ?_|refine jb ?_|refine jc ?_|refine jd ?_|refine je ?_|refine jf ?_|refine jg ?_|refine jh ?_|refine ji ?_|refine jj ?_|refine jk ?_|refine jl ?_|refine jm ?_|refine jn ?_|refine jo ?_|refine jp ?_|refine jq ?_|refine jr ?_|refine js ?_|refine jt ?_|refine ju ?_|refine jv ?_|refine jw ?_|refine jx ?_|refine jy ?_|refine jz ?_|refine jA ?_|refine jB ?_|refine jC ?_|refine jD ?_|refine jE ?_|refine jF ?_|refine jG ?_|refine jH ?_|refine jI ?_|refine jJ ?_|refine jK ?_|refine jL ?_|refine jM (by assumption) ?_|refine jN (by assumption) rfl ?_|refine jO (by assumption) ?_|refine jP (by assumption) rfl ?_|refine jQ ?_|refine jR ?_|refine jS ?_|refine jT ?_|refine jU (by assumption) rfl ?_))
          refine M.str_i (by simp only [List.length_append, List.length_cons, List.length_nil]; omega) ?_
          (repeat (first|refine ja ?_|refine jb ?_|refine jc ?_|refine jd ?_|refine je ?_|refine jf ?_|refine jg ?_|refine jh ?_|refine ji ?_|refine jj ?_|refine jk ?_|refine jl ?_|refine jm ?_|refine jn ?_|refine jo ?_|refine jp ?_|refine jq ?_|refine jr ?_|refine js ?_|refine jt ?_|refine ju ?_|refine jv ?_|refine jw ?_|refine jx ?_|refine jy ?_|refine jz ?_|refine jA ?_|refine jB ?_|refine jC ?_|refine jD ?_|refine jE ?_|refine jF ?_|refine jG ?_|refine jH ?_|refine jI ?_|refine jJ ?_|refine jK ?_|refine jL ?_|refine jM (by assumption) ?_|refine jN (by assumption) rfl ?_|refine jO (by assumption) ?_|refine jP (by assumption) rfl ?_|refine jQ ?_|refine jR ?_|refine jS ?_|refine jT ?_|refine jU (by assumption) rfl ?_))
          refine M.str_i (by simp only [List.length_append, List.length_cons, List.length_nil]; omega) ?_
          (repeat (first|refine ja ?_|refine jb ?_|refine jc ?_|refine jd ?_|refine je ?_|refine jf ?_|refine jg ?_|refine jh ?_|refine ji ?_|refine jj ?_|refine jk ?_|refine jl ?_|refine jm ?_|refine jn ?_|refine jo ?_|refine jp ?_|refine jq ?_|refine jr ?_|refine js ?_|refine jt ?_|refine ju ?_|refine jv ?_|refine jw ?_|refine jx ?_|refine jy ?_|refine jz ?_|refine jA ?_|refine jB ?_|refine jC ?_|refine jD ?_|refine jE ?_|refine jF ?_|refine jG ?_|refine jH ?_|refine jI ?_|refine jJ ?_|refine jK ?_|refine jL ?_|refine jM (by assumption) ?_|refine jN (by assumption) rfl ?_|refine jO (by assumption) ?_|refine jP (by assumption) rfl ?_|refine jQ ?_|refine jR ?_|refine jS ?_|refine jT ?_|refine jU (by assumption) rfl ?_))
          (repeat (first|refine ja ?_|refine jb ?_|refine jc ?_|refine jd ?_|refine je ?_|refine jf ?_|refine jg ?_|refine jh ?_|refine ji ?_|refine jj ?_|refine jk ?_|refine jl ?_|refine jm ?_|refine jn ?_|refine jo ?_|refine jp ?_|refine jq ?_|refine jr ?_|refine js ?_|refine jt ?_|refine ju ?_|refine jv ?_|refine jw ?_|refine jx ?_|refine jy ?_|refine jz ?_|refine jA ?_|refine jB ?_|refine jC ?_|refine jD ?_|refine jE ?_|refine jF ?_|refine jG ?_|refine jH ?_|refine jI ?_|refine jJ ?_|refine jK ?_|refine jL ?_|refine jM (by assumption) ?_|refine jN (by assumption) rfl ?_|refine jO (by assumption) ?_|refine jP (by assumption) rfl ?_|refine jQ ?_|refine jR ?_|refine jS ?_|refine jT ?_|refine jU (by assumption) rfl ?_))
          repeat (first | refine M.loadAll_i ca rfl ?_ | refine M.loadAll_i cb rfl ?_ | refine M.loadAll_i cc rfl ?_ | refine M.loadAll_i c8 rfl ?_ | refine M.loadAll_i c9 rfl ?_)
          (repeat (first|refine ja ?_|refine jb ?_|refine jc ?_|refine jd ?_|refine je ?_|refine jf ?_|refine jg ?_|refine jh ?_|refine ji ?_|refine jj ?_|refine jk ?_|refine jl ?_|refine jm ?_|refine jn ?_|refine jo ?_|refine jp ?_|refine jq ?_|refine jr ?_|refine js ?_|refine jt ?_|refine ju ?_|refine jv ?_|refine jw ?_|refine jx ?_|refine jy ?_|refine jz ?_|refine jA ?_|refine jB ?_|refine jC ?_|refine jD ?_|refine jE ?_|refine jF ?_|refine jG ?_|refine jH ?_|refine jI ?_|refine jJ ?_|refine jK ?_|refine jL ?_|refine jM (by assumption) ?_|refine jN (by assumption) rfl ?_|refine jO (by assumption) ?_|refine jP (by assumption) rfl ?_|refine jQ ?_|refine jR ?_|refine jS ?_|refine jT ?_|refine jU (by assumption) rfl ?_))
          refine M.call_i (text_ret _ w9.drew) ?_; rintro _ w12 ⟨rfl, k12⟩
          have c0 := c0.keep k12 (fun h => h)
          have ca := ca.keep k12 (fun h => h)
          have cb := cb.keep k12 (fun h => h)
          have cc := cc.keep k12 (fun h => h)
          have c8 := c8.keep k12 (fun h => h)
          have c9 := c9.keep k12 (fun h => h)
          have q := q.trans k12 (fun _ _ h => h)
          (repeat (first|refine ja ?_|refine jb ?_|refine jc ?_|refine jd ?_|refine je ?_|refine jf ?_|refine jg ?_|refine jh ?_|refine ji ?_|refine jj ?_|refine jk ?_|refine jl ?_|refine jm ?_|refine jn ?_|refine jo ?_|refine jp ?_|refine jq ?_|refine jr ?_|refine js ?_|refine jt ?_|refine ju ?_|refine jv ?_|refine jw ?_|refine jx ?_|refine jy ?_|refine jz ?_|refine jA ?_|refine jB ?_|refine jC ?_|refine jD ?_|refine jE ?_|refine jF ?_|refine jG ?_|refine jH ?_|refine jI ?_|refine jJ ?_|refine jK ?_|refine jL ?_|refine jM (by assumption) ?_|refine jN (by assumption) rfl ?_|refine jO (by assumption) ?_|refine jP (by assumption) rfl ?_|refine jQ ?_|refine jR ?_|refine jS ?_|refine jT ?_|refine jU (by assumption) rfl ?_))
          have y13 := q.size
          refine M.buildSlice_i (([tP (([40, 40, 95, 32, 122, 101, 114, 111, 95, 101, 120, 116, 101, 110, 100, 32] : List UInt8) ++ numB (n.wd - wdN N n.a) ++ ([41, 32] : List UInt8)), iP n.a, tP (([41] : List UInt8))]).flatMap Pc.cells) (by kernel_rfl) (fun w13 b13 k13 s13 => ?_)
          have c0 := c0.keep k13 (fun h => h)
          have ca := ca.keep k13 (fun h => h)
          have cb := cb.keep k13 (fun h => h)
          have cc := cc.keep k13 (fun h => h)
          have c8 := c8.keep k13 (fun h => h)
          have c9 := c9.keep k13 (fun h => h)
          have q := q.trans k13 (fun _ _ h => h)
          (repeat (first|refine ja ?_|refine jb ?_|refine jc ?_|refine jd ?_|refine je ?_|refine jf ?_|refine jg ?_|refine jh ?_|refine ji ?_|refine jj ?_|refine jk ?_|refine jl ?_|refine jm ?_|refine jn ?_|refine jo ?_|refine jp ?_|refine jq ?_|refine jr ?_|refine js ?_|refine jt ?_|refine ju ?_|refine jv ?_|refine jw ?_|refine jx ?_|refine jy ?_|refine jz ?_|refine jA ?_|refine jB ?_|refine jC ?_|refine jD ?_|refine jE ?_|refine jF ?_|refine jG ?_|refine jH ?_|refine jI ?_|refine jJ ?_|refine jK ?_|refine jL ?_|refine jM (by assumption) ?_|refine jN (by assumption) rfl ?_|refine jO (by assumption) ?_|refine jP (by assumption) rfl ?_|refine jQ ?_|refine jR ?_|refine jS ?_|refine jT ?_|refine jU (by assumption) rfl ?_))
          rw [hp]
          exact ⟨_, rfl, b13, by omega, q⟩
        by_cases e26 : n.op = 26
        ·
          have hp : pcsN N n = [tP (([40, 40, 95, 32, 115, 105, 103, 110, 95, 101, 120, 116, 101, 110, 100, 32] : List UInt8) ++ numB (n.wd - wdN N n.a) ++ ([41, 32] : List UInt8)), iP n.a, tP (([41] : List UInt8))] := by unfold pcsN; rw [if_neg e20, if_neg e21, if_neg e12, if_neg e15, if_neg e22, if_neg e23, if_neg e25, if_pos e26]
          (repeat (first|refine ja ?_|refine jb ?_|refine jc ?_|refine jd ?_|refine je ?_|refine jf ?_|refine jg ?_|refine jh ?_|refine ji ?_|refine jj ?_|refine jk ?_|refine jl ?_|refine jm ?_|refine jn ?_|refine jo ?_|refine jp ?_|refine jq ?_|refine jr ?_|refine js ?_|refine jt ?_|refine ju ?_|refine jv ?_|refine jw ?_|refine jx ?_|refine jy ?_|refine jz ?_|refine jA ?_|refine jB ?_|refine jC ?_|refine jD ?_|refine jE ?_|refine jF ?_|refine jG ?_|refine jH ?_|refine jI ?_|refine jJ ?_|refine jK ?_|refine jL ?_|refine jM (by assumption) ?_|refine jN (by assumption) rfl ?_|refine jO (by assumption) ?_|refine jP (by assumption) rfl ?_|refine jQ ?_|refine jR ?_|refine jS ?_|refine jT ?_|refine jU (by assumption) rfl ?_))
          have k11 := Keep.drew w9 No
          have z11 := k11.size
          have c0 := c0.keep k11 (fun h => h)
          have ca := ca.keep k11 (fun h => h)
          have cb := cb.keep k11 (fun h => h)
          have cc := cc.keep k11 (fun h => h)
          have c8 := c8.keep k11 (fun h => h)
          have c9 := c9.keep k11 (fun h => h)
          have q := q.trans k11 (fun _ _ h => h)
          (repeat (first|refine ja ?_|refine jb ?_|refine jc ?_|refine jd ?_|refine je ?_|refine jf ?_|refine jg ?_|refine jh ?_|refine ji ?_|refine jj ?_|refine jk ?_|refine jl ?_|refine jm ?_|refine jn ?_|refine jo ?_|refine jp ?_|refine jq ?_|refine jr ?_|refine js ?_|refine jt ?_|refine ju ?_|refine jv ?_|refine jw ?_|refine jx ?_|refine jy ?_|refine jz ?_|refine jA ?_|refine jB ?_|refine jC ?_|refine jD ?_|refine jE ?_|refine jF ?_|refine jG ?_|refine jH ?_|refine jI ?_|refine jJ ?_|refine jK ?_|refine jL ?_|refine jM (by assumption) ?_|refine jN (by assumption) rfl ?_|refine jO (by assumption) ?_|refine jP (by assumption) rfl ?_|refine jQ ?_|refine jR ?_|refine jS ?_|refine jT ?_|refine jU (by assumption) rfl ?_))
          repeat (first | refine M.loadAll_i ca rfl ?_ | refine M.loadAll_i cb rfl ?_ | refine M.loadAll_i cc rfl ?_ | refine M.loadAll_i c8 rfl ?_ | refine M.loadAll_i c9 rfl ?_)
          (repeat (first|refine ja ?_|refine jb ?_|refine jc ?_|refine jd ?_|refine je ?_|refine jf ?_|refine jg ?_|refine jh ?_|refine ji ?_|refine jj ?_|refine jk ?_|refine jl ?_|refine jm ?_|refine jn ?_|refine jo ?_|refine jp ?_|refine jq ?_|refine jr ?_|refine js ?_|refine jt ?_|refine ju ?_|refine jv ?_|refine jw ?_|refine jx ?_|refine jy ?_|refine jz ?_|refine jA ?_|refine jB ?_|refine jC ?_|refine jD ?_|refine jE ?_|refine jF ?_|refine jG ?_|refine jH ?_|refine jI ?_|refine jJ ?_|refine jK ?_|refine jL ?_|refine jM (by assumption) ?_|refine jN (by assumption) rfl ?_|refine jO (by assumption) ?_|refine jP (by assumption) rfl ?_|refine jQ ?_|refine jR ?_|refine jS ?_|refine jT ?_|refine jU (by assumption) rfl ?_))
          refine M.str_i (by simp only [List.length_append, List.length_cons, List.length_nil]; omega) ?_
          (repeat (first|refine ja ?_|refine jb ?_|refine jc ?_|refine jd ?_|refine je ?_|refine jf ?_|refine jg ?_|refine jh ?_|refine ji ?_|refine jj ?_|refine jk ?_|refine jl ?_|refine jm ?_|refine jn ?_|refine jo ?_|refine jp ?_|refine jq ?_|refine jr ?_|refine js ?_|refine jt ?_|refine ju ?_|refine jv ?_|refine jw ?_|refine jx ?_|refine jy ?_|refine jz ?_|refine jA ?_|refine jB ?_|refine jC ?_|refine jD ?_|refine jE ?_|refine jF ?_|refine jG ?_|refine jH ?_|refine jI ?_|refine jJ ?_|refine jK ?_|refine jL ?_|refine jM (by assumption) ?_|refine jN (by assumption) rfl ?_|refine jO (by assumption) ?_|refine jP (by assumption) rfl ?_|refine jQ ?_|refine jR ?_|refine jS ?_|refine jT ?_|refine jU (by assumption) rfl ?_))
          refine M.str_i (by simp only [List.length_append, List.length_cons, List.length_nil]; omega) ?_
          (repeat (first|refine ja ?_|refine jb ?_|refine jc ?_|refine jd ?_|refine je ?_|refine jf ?_|refine jg ?_|refine jh ?_|refine ji ?_|refine jj ?_|refine jk ?_|refine jl ?_|refine jm ?_|refine jn ?_|refine jo ?_|refine jp ?_|refine jq ?_|refine jr ?_|refine js ?_|refine jt ?_|refine ju ?_|refine jv ?_|refine jw ?_|refine jx ?_|refine jy ?_|refine jz ?_|refine jA ?_|refine jB ?_|refine jC ?_|refine jD ?_|refine jE ?_|refine jF ?_|refine jG ?_|refine jH ?_|refine jI ?_|refine jJ ?_|refine jK ?_|refine jL ?_|refine jM (by assumption) ?_|refine jN (by assumption) rfl ?_|refine jO (by assumption) ?_|refine jP (by assumption) rfl ?_|refine jQ ?_|refine jR ?_|refine jS ?_|refine jT ?_|refine jU (by assumption) rfl ?_))
          (repeat (first|refine ja ?_|refine jb ?_|refine jc ?_|refine jd ?_|refine je ?_|refine jf ?_|refine jg ?_|refine jh ?_|refine ji ?_|refine jj ?_|refine jk ?_|refine jl ?_|refine jm ?_|refine jn ?_|refine jo ?_|refine jp ?_|refine jq ?_|refine jr ?_|refine js ?_|refine jt ?_|refine ju ?_|refine jv ?_|refine jw ?_|refine jx ?_|refine jy ?_|refine jz ?_|refine jA ?_|refine jB ?_|refine jC ?_|refine jD ?_|refine jE ?_|refine jF ?_|refine jG ?_|refine jH ?_|refine jI ?_|refine jJ ?_|refine jK ?_|refine jL ?_|refine jM (by assumption) ?_|refine jN (by assumption) rfl ?_|refine jO (by assumption) ?_|refine jP (by assumption) rfl ?_|refine jQ ?_|refine jR ?_|refine jS ?_|refine jT ?_|refine jU (by assumption) rfl ?_))
          repeat (first | refine M.loadAll_i ca rfl ?_ | refine M.loadAll_i cb rfl ?_ | refine M.loadAll_i cc rfl ?_ | refine M.loadAll_i c8 rfl ?_ | refine M.loadAll_i c9 rfl ?_)
          (repeat (first|refine ja ?_|refine jb ?_|refine jc ?_|refine jd ?_|refine je ?_|refine jf ?_|refine jg ?_|refine jh ?_|refine ji ?_|refine jj ?_|refine jk ?_|refine jl ?_|refine jm ?_|refine jn ?_|refine jo ?_|refine jp ?_|refine jq ?_|refine jr ?_|refine js ?_|refine jt ?_|refine ju ?_|refine jv ?_|refine jw ?_|refine jx ?_|refine jy ?_|refine jz ?_|refine jA ?_|refine jB ?_|refine jC ?_|refine jD ?_|refine jE ?_|refine jF ?_|refine jG ?_|refine jH ?_|refine jI ?_|refine jJ ?_|refine jK ?_|refine jL ?_|refine jM (by assumption) ?_|refine jN (by assumption) rfl ?_|refine jO (by assumption) ?_|refine jP (by assumption) rfl ?_|refine jQ ?_|refine jR ?_|refine jS ?_|refine jT ?_|refine jU (by assumption) rfl ?_))
          refine M.call_i (text_ret _ w9.drew) ?_; rintro _ w12 ⟨rfl, k12⟩
          have c0 := c0.keep k12 (fun h => h)
          have ca := ca.keep k12 (fun h => h)
          have cb := cb.keep k12 (fun h => h)
          have cc := cc.keep k12 (fun h => h)
          have c8 := c8.keep k12 (fun h => h)
          have c9 := c9.keep k12 (fun h => h)
          have q := q.trans k12 (fun _ _ h => h)
          (repeat (first|refine ja ?_|refine jb ?_|refine jc ?_|refine jd ?_|refine je ?_|refine jf ?_|refine jg ?_|refine jh ?_|refine ji ?_|refine jj ?_|refine jk ?_|refine jl ?_|refine jm ?_|refine jn ?_|refine jo ?_|refine jp ?_|refine jq ?_|refine jr ?_|refine js ?_|refine jt ?_|refine ju ?_|refine jv ?_|refine jw ?_|refine jx ?_|refine jy ?_|refine jz ?_|refine jA ?_|refine jB ?_|refine jC ?_|refine jD ?_|refine jE ?_|refine jF ?_|refine jG ?_|refine jH ?_|refine jI ?_|refine jJ ?_|refine jK ?_|refine jL ?_|refine jM (by assumption) ?_|refine jN (by assumption) rfl ?_|refine jO (by assumption) ?_|refine jP (by assumption) rfl ?_|refine jQ ?_|refine jR ?_|refine jS ?_|refine jT ?_|refine jU (by assumption) rfl ?_))
          have y13 := q.size
          refine M.buildSlice_i (([tP (([40, 40, 95, 32, 115, 105, 103, 110, 95, 101, 120, 116, 101, 110, 100, 32] : List UInt8) ++ numB (n.wd - wdN N n.a) ++ ([41, 32] : List UInt8)), iP n.a, tP (([41] : List UInt8))]).flatMap Pc.cells) (by kernel_rfl) (fun w13 b13 k13 s13 => ?_)
          have c0 := c0.keep k13 (fun h => h)
          have ca := ca.keep k13 (fun h => h)
          have cb := cb.keep k13 (fun h => h)
          have cc := cc.keep k13 (fun h => h)
          have c8 := c8.keep k13 (fun h => h)
          have c9 := c9.keep k13 (fun h => h)
          have q := q.trans k13 (fun _ _ h => h)
          (repeat (first|refine ja ?_|refine jb ?_|refine jc ?_|refine jd ?_|refine je ?_|refine jf ?_|refine jg ?_|refine jh ?_|refine ji ?_|refine jj ?_|refine jk ?_|refine jl ?_|refine jm ?_|refine jn ?_|refine jo ?_|refine jp ?_|refine jq ?_|refine jr ?_|refine js ?_|refine jt ?_|refine ju ?_|refine jv ?_|refine jw ?_|refine jx ?_|refine jy ?_|refine jz ?_|refine jA ?_|refine jB ?_|refine jC ?_|refine jD ?_|refine jE ?_|refine jF ?_|refine jG ?_|refine jH ?_|refine jI ?_|refine jJ ?_|refine jK ?_|refine jL ?_|refine jM (by assumption) ?_|refine jN (by assumption) rfl ?_|refine jO (by assumption) ?_|refine jP (by assumption) rfl ?_|refine jQ ?_|refine jR ?_|refine jS ?_|refine jT ?_|refine jU (by assumption) rfl ?_))
          rw [hp]
          exact ⟨_, rfl, b13, by omega, q⟩
        have hp : pcsN N n = [tP (([40] : List UInt8) ++ opB n.op ++ ([32] : List UInt8)), iP n.a, tP (([32] : List UInt8)), iP n.b, tP (([41] : List UInt8))] := by unfold pcsN; rw [if_neg e20, if_neg e21, if_neg e12, if_neg e15, if_neg e22, if_neg e23, if_neg e25, if_neg e26]
        (repeat (first|refine ja ?_|refine jb ?_|refine jc ?_|refine jd ?_|refine je ?_|refine jf ?_|refine jg ?_|refine jh ?_|refine ji ?_|refine jj ?_|refine jk ?_|refine jl ?_|refine jm ?_|refine jn ?_|refine jo ?_|refine jp ?_|refine jq ?_|refine jr ?_|refine js ?_|refine jt ?_|refine ju ?_|refine jv ?_|refine jw ?_|refine jx ?_|refine jy ?_|refine jz ?_|refine jA ?_|refine jB ?_|refine jC ?_|refine jD ?_|refine jE ?_|refine jF ?_|refine jG ?_|refine jH ?_|refine jI ?_|refine jJ ?_|refine jK ?_|refine jL ?_|refine jM (by assumption) ?_|refine jN (by assumption) rfl ?_|refine jO (by assumption) ?_|refine jP (by assumption) rfl ?_|refine jQ ?_|refine jR ?_|refine jS ?_|refine jT ?_|refine jU (by assumption) rfl ?_))
        have k11 := Keep.drew w9 No
        have z11 := k11.size
        have c0 := c0.keep k11 (fun h => h)
        have ca := ca.keep k11 (fun h => h)
        have cb := cb.keep k11 (fun h => h)
        have cc := cc.keep k11 (fun h => h)
        have c8 := c8.keep k11 (fun h => h)
        have c9 := c9.keep k11 (fun h => h)
        have q := q.trans k11 (fun _ _ h => h)
        (repeat (first|refine ja ?_|refine jb ?_|refine jc ?_|refine jd ?_|refine je ?_|refine jf ?_|refine jg ?_|refine jh ?_|refine ji ?_|refine jj ?_|refine jk ?_|refine jl ?_|refine jm ?_|refine jn ?_|refine jo ?_|refine jp ?_|refine jq ?_|refine jr ?_|refine js ?_|refine jt ?_|refine ju ?_|refine jv ?_|refine jw ?_|refine jx ?_|refine jy ?_|refine jz ?_|refine jA ?_|refine jB ?_|refine jC ?_|refine jD ?_|refine jE ?_|refine jF ?_|refine jG ?_|refine jH ?_|refine jI ?_|refine jJ ?_|refine jK ?_|refine jL ?_|refine jM (by assumption) ?_|refine jN (by assumption) rfl ?_|refine jO (by assumption) ?_|refine jP (by assumption) rfl ?_|refine jQ ?_|refine jR ?_|refine jS ?_|refine jT ?_|refine jU (by assumption) rfl ?_))
        repeat (first | refine M.loadAll_i ca rfl ?_ | refine M.loadAll_i cb rfl ?_ | refine M.loadAll_i cc rfl ?_ | refine M.loadAll_i c8 rfl ?_ | refine M.loadAll_i c9 rfl ?_)
        (repeat (first|refine ja ?_|refine jb ?_|refine jc ?_|refine jd ?_|refine je ?_|refine jf ?_|refine jg ?_|refine jh ?_|refine ji ?_|refine jj ?_|refine jk ?_|refine jl ?_|refine jm ?_|refine jn ?_|refine jo ?_|refine jp ?_|refine jq ?_|refine jr ?_|refine js ?_|refine jt ?_|refine ju ?_|refine jv ?_|refine jw ?_|refine jx ?_|refine jy ?_|refine jz ?_|refine jA ?_|refine jB ?_|refine jC ?_|refine jD ?_|refine jE ?_|refine jF ?_|refine jG ?_|refine jH ?_|refine jI ?_|refine jJ ?_|refine jK ?_|refine jL ?_|refine jM (by assumption) ?_|refine jN (by assumption) rfl ?_|refine jO (by assumption) ?_|refine jP (by assumption) rfl ?_|refine jQ ?_|refine jR ?_|refine jS ?_|refine jT ?_|refine jU (by assumption) rfl ?_))
        refine M.call_i (name_ret (op := n.op) (by omega) w9.drew) ?_; rintro _ w12 ⟨rfl, k12⟩
        have c0 := c0.keep k12 (fun h => h)
        have ca := ca.keep k12 (fun h => h)
        have cb := cb.keep k12 (fun h => h)
        have cc := cc.keep k12 (fun h => h)
        have c8 := c8.keep k12 (fun h => h)
        have c9 := c9.keep k12 (fun h => h)
        have q := q.trans k12 (fun _ _ h => h)
        (repeat (first|refine ja ?_|refine jb ?_|refine jc ?_|refine jd ?_|refine je ?_|refine jf ?_|refine jg ?_|refine jh ?_|refine ji ?_|refine jj ?_|refine jk ?_|refine jl ?_|refine jm ?_|refine jn ?_|refine jo ?_|refine jp ?_|refine jq ?_|refine jr ?_|refine js ?_|refine jt ?_|refine ju ?_|refine jv ?_|refine jw ?_|refine jx ?_|refine jy ?_|refine jz ?_|refine jA ?_|refine jB ?_|refine jC ?_|refine jD ?_|refine jE ?_|refine jF ?_|refine jG ?_|refine jH ?_|refine jI ?_|refine jJ ?_|refine jK ?_|refine jL ?_|refine jM (by assumption) ?_|refine jN (by assumption) rfl ?_|refine jO (by assumption) ?_|refine jP (by assumption) rfl ?_|refine jQ ?_|refine jR ?_|refine jS ?_|refine jT ?_|refine jU (by assumption) rfl ?_))
        refine M.str_i (by simp only [List.length_append, List.length_cons, List.length_nil]; omega) ?_
        (repeat (first|refine ja ?_|refine jb ?_|refine jc ?_|refine jd ?_|refine je ?_|refine jf ?_|refine jg ?_|refine jh ?_|refine ji ?_|refine jj ?_|refine jk ?_|refine jl ?_|refine jm ?_|refine jn ?_|refine jo ?_|refine jp ?_|refine jq ?_|refine jr ?_|refine js ?_|refine jt ?_|refine ju ?_|refine jv ?_|refine jw ?_|refine jx ?_|refine jy ?_|refine jz ?_|refine jA ?_|refine jB ?_|refine jC ?_|refine jD ?_|refine jE ?_|refine jF ?_|refine jG ?_|refine jH ?_|refine jI ?_|refine jJ ?_|refine jK ?_|refine jL ?_|refine jM (by assumption) ?_|refine jN (by assumption) rfl ?_|refine jO (by assumption) ?_|refine jP (by assumption) rfl ?_|refine jQ ?_|refine jR ?_|refine jS ?_|refine jT ?_|refine jU (by assumption) rfl ?_))
        refine M.str_i (by simp only [List.length_append, List.length_cons, List.length_nil]; omega) ?_
        (repeat (first|refine ja ?_|refine jb ?_|refine jc ?_|refine jd ?_|refine je ?_|refine jf ?_|refine jg ?_|refine jh ?_|refine ji ?_|refine jj ?_|refine jk ?_|refine jl ?_|refine jm ?_|refine jn ?_|refine jo ?_|refine jp ?_|refine jq ?_|refine jr ?_|refine js ?_|refine jt ?_|refine ju ?_|refine jv ?_|refine jw ?_|refine jx ?_|refine jy ?_|refine jz ?_|refine jA ?_|refine jB ?_|refine jC ?_|refine jD ?_|refine jE ?_|refine jF ?_|refine jG ?_|refine jH ?_|refine jI ?_|refine jJ ?_|refine jK ?_|refine jL ?_|refine jM (by assumption) ?_|refine jN (by assumption) rfl ?_|refine jO (by assumption) ?_|refine jP (by assumption) rfl ?_|refine jQ ?_|refine jR ?_|refine jS ?_|refine jT ?_|refine jU (by assumption) rfl ?_))
        refine M.call_i (text_ret _ w12) ?_; rintro _ w13 ⟨rfl, k13⟩
        have c0 := c0.keep k13 (fun h => h)
        have ca := ca.keep k13 (fun h => h)
        have cb := cb.keep k13 (fun h => h)
        have cc := cc.keep k13 (fun h => h)
        have c8 := c8.keep k13 (fun h => h)
        have c9 := c9.keep k13 (fun h => h)
        have q := q.trans k13 (fun _ _ h => h)
        (repeat (first|refine ja ?_|refine jb ?_|refine jc ?_|refine jd ?_|refine je ?_|refine jf ?_|refine jg ?_|refine jh ?_|refine ji ?_|refine jj ?_|refine jk ?_|refine jl ?_|refine jm ?_|refine jn ?_|refine jo ?_|refine jp ?_|refine jq ?_|refine jr ?_|refine js ?_|refine jt ?_|refine ju ?_|refine jv ?_|refine jw ?_|refine jx ?_|refine jy ?_|refine jz ?_|refine jA ?_|refine jB ?_|refine jC ?_|refine jD ?_|refine jE ?_|refine jF ?_|refine jG ?_|refine jH ?_|refine jI ?_|refine jJ ?_|refine jK ?_|refine jL ?_|refine jM (by assumption) ?_|refine jN (by assumption) rfl ?_|refine jO (by assumption) ?_|refine jP (by assumption) rfl ?_|refine jQ ?_|refine jR ?_|refine jS ?_|refine jT ?_|refine jU (by assumption) rfl ?_))
        have y14 := q.size
        refine M.buildSlice_i (([tP (([40] : List UInt8) ++ opB n.op ++ ([32] : List UInt8)), iP n.a, tP (([32] : List UInt8)), iP n.b, tP (([41] : List UInt8))]).flatMap Pc.cells) (by kernel_rfl) (fun w14 b14 k14 s14 => ?_)
        have c0 := c0.keep k14 (fun h => h)
        have ca := ca.keep k14 (fun h => h)
        have cb := cb.keep k14 (fun h => h)
        have cc := cc.keep k14 (fun h => h)
        have c8 := c8.keep k14 (fun h => h)
        have c9 := c9.keep k14 (fun h => h)
        have q := q.trans k14 (fun _ _ h => h)
        (repeat (first|refine ja ?_|refine jb ?_|refine jc ?_|refine jd ?_|refine je ?_|refine jf ?_|refine jg ?_|refine jh ?_|refine ji ?_|refine jj ?_|refine jk ?_|refine jl ?_|refine jm ?_|refine jn ?_|refine jo ?_|refine jp ?_|refine jq ?_|refine jr ?_|refine js ?_|refine jt ?_|refine ju ?_|refine jv ?_|refine jw ?_|refine jx ?_|refine jy ?_|refine jz ?_|refine jA ?_|refine jB ?_|refine jC ?_|refine jD ?_|refine jE ?_|refine jF ?_|refine jG ?_|refine jH ?_|refine jI ?_|refine jJ ?_|refine jK ?_|refine jL ?_|refine jM (by assumption) ?_|refine jN (by assumption) rfl ?_|refine jO (by assumption) ?_|refine jP (by assumption) rfl ?_|refine jQ ?_|refine jR ?_|refine jS ?_|refine jT ?_|refine jU (by assumption) rfl ?_))
        rw [hp]
        exact ⟨_, rfl, b14, by omega, q⟩
end Go.Proofs.Ythkkjjbjpbgcpaa
