import Derived.Test.YtfffepeloiefiaaSem16p
import Derived.Test.YtfffepeloiefiaaDagE
namespace Go.Proofs.Ytfffepeloiefiaa
open Go.Mw Go.Maps Go.MapKept
set_option linter.unusedVariables false
set_option linter.unusedSimpArgs false
set_option maxRecDepth 100000
attribute [local irreducible] M.val M.unit M.next M.pick M.new M.nilCheck M.load1 M.loadA M.store M.fieldAddr M.indexSl M.indexArr M.slice M.makeSlice M.buildSlice M.len M.lenS M.cap M.append M.extract M.conv M.not M.neg M.bin M.shift M.eqB M.eqNil M.call M.callv M.gd M.share M.cond M.loop M.draw pureW readW Ret
/-! breakwater/sem.kids: function 80 -/
def sh80 (x0 : Value) (R : Kt) (w : World) : Prop :=
  M.new 78 (Value.cells x0) (fun t1 w =>
  M.share (fun K1 w =>
  M.fieldAddr 0 t1 (fun t4 w =>
  M.load1 t4 (fun t5 w =>
  M.bin .eql t5 (Value.int IntKind.i64 20) (fun t6 w =>
  M.cond t6
  (K1 [t6] w)
  (M.fieldAddr 0 t1 (fun t7 w =>
  M.load1 t7 (fun t8 w =>
  M.bin .eql t8 (Value.int IntKind.i64 21) (fun t9 w =>
  K1 [t9] w) w) w) w)) w) w) w) (fun s1 w => ∀ _ : List Value,
  M.cond (s1.getD 0 undef)
  (R (Value.slice none 0 0) w)
  (M.fieldAddr 0 t1 (fun t11 w =>
  M.load1 t11 (fun t12 w =>
  M.bin .eql t12 (Value.int IntKind.i64 22) (fun t13 w =>
  M.cond t13
  (M.fieldAddr 2 t1 (fun t14 w =>
  M.load1 t14 (fun t15 w =>
  M.fieldAddr 3 t1 (fun t16 w =>
  M.load1 t16 (fun t17 w =>
  M.fieldAddr 4 t1 (fun t18 w =>
  M.load1 t18 (fun t19 w =>
  M.buildSlice 3 1 #[.int .i64 0] 3 [(0, t15), (1, t17), (2, t19)] (fun t20 w =>
  R t20 w) w) w) w) w) w) w) w)
  (M.share (fun K2 w =>
  M.fieldAddr 0 t1 (fun t22 w =>
  M.load1 t22 (fun t23 w =>
  M.bin .leq t23 (Value.int IntKind.i64 14) (fun t24 w =>
  M.cond t24
  (K2 [t24] w)
  (M.fieldAddr 0 t1 (fun t25 w =>
  M.load1 t25 (fun t26 w =>
  M.bin .eql t26 (Value.int IntKind.i64 24) (fun t27 w =>
  K2 [t27] w) w) w) w)) w) w) w) (fun s2 w => ∀ _ : List Value,
  M.cond (s2.getD 0 undef)
  (M.fieldAddr 2 t1 (fun t28 w =>
  M.load1 t28 (fun t29 w =>
  M.fieldAddr 3 t1 (fun t30 w =>
  M.load1 t30 (fun t31 w =>
  M.buildSlice 3 1 #[.int .i64 0] 2 [(0, t29), (1, t31)] (fun t32 w =>
  R t32 w) w) w) w) w) w)
  (M.fieldAddr 2 t1 (fun t33 w =>
  M.load1 t33 (fun t34 w =>
  M.buildSlice 3 1 #[.int .i64 0] 1 [(0, t34)] (fun t35 w =>
  R t35 w) w) w) w)) w)) w) w) w)) w) w
theorem ok80 (x0 : Value) (R : Kt) (w : World) (h : sh80 x0 R w) : Ret Try.prog 80 #[x0] w R :=
  ret_mk <| calls_of_comp mixed (c := Try.f80.body.getD .skip) (args := [x0]) (rs := [(ResultVar.tmp 2)]) (Ann.seq Ann.text (Ann.seq (Ann.block (Ann.join [3] [4, 5, 6, 7, 8, 9] (Ann.seq Ann.text (Ann.cond Ann.leaf Ann.text)) (Ann.cond (Ann.seq Ann.text Ann.leaf) (Ann.seq Ann.text (Ann.cond (Ann.seq Ann.text Ann.leaf) (Ann.join [21] [22, 23, 24, 25, 26, 27] (Ann.seq Ann.text (Ann.cond Ann.leaf Ann.text)) (Ann.cond (Ann.seq Ann.text Ann.leaf) Ann.leaf))))))) (Ann.seq Ann.text Ann.leaf)))
    Try.func80 (by kernel_rfl) (by kernel_rfl)
    (Eq.mp (by kernel_rfl) h)
/-! breakwater/sem.Value$1: function 75 -/
def sh75 (x0 x1 x2 x3 : Value) (R : Kt) (w : World) : Prop :=
  M.new 78 (Value.cells x0) (fun t4 w =>
  M.fieldAddr 0 t4 (fun t11 w =>
  M.load1 t11 (fun t12 w =>
  M.bin .eql t12 (Value.int IntKind.i64 20) (fun t14 w =>
  M.cond t14
  (M.fieldAddr 5 t4 (fun t15 w =>
  M.load1 t15 (fun t16 w =>
  R t16 w) w) w)
  (M.bin .eql t12 (Value.int IntKind.i64 21) (fun t18 w =>
  M.cond t18
  (M.fieldAddr 2 t4 (fun t19 w =>
  M.load1 t19 (fun t20 w =>
  M.load1 x2 (fun t21 w =>
  M.len t21 (fun t22 w =>
  M.bin .geq t20 t22 (fun t23 w =>
  M.cond t23
  (R (Value.int IntKind.u64 0) w)
  (M.draw (fun w =>
  M.fieldAddr 1 t4 (fun t24 w =>
  M.load1 t24 (fun t25 w =>
  M.load1 x2 (fun t26 w =>
  M.fieldAddr 2 t4 (fun t27 w =>
  M.load1 t27 (fun t28 w =>
  M.indexSl 1 t26 t28 (fun t29 w =>
  M.load1 t29 (fun t30 w =>
  M.call Try.prog 61 #[t25, t30] (fun t31 w =>
  ((M.load1 t27 (fun v' _ => v' = t28) w) ∧ ((M.load1 x2 (fun v' _ => v' = t26) w) ∧ R t31 w))) w) w) w) w) w) w) w) w) w)) w) w) w) w) w)
  (M.bin .eql t12 (Value.int IntKind.i64 22) (fun t33 w =>
  M.cond t33
  (M.fieldAddr 2 t4 (fun t35 w =>
  M.load1 t35 (fun t36 w =>
  M.callv Try.prog x1 #[t36] (fun t37 w =>
  M.bin .eql t37 (Value.int IntKind.u64 1) (fun t38 w =>
  M.cond t38
  (M.fieldAddr 3 t4 (fun t40 w =>
  M.load1 t40 (fun t41 w =>
  M.callv Try.prog x1 #[t41] (fun t42 w =>
  R t42 w) w) w) w)
  (M.fieldAddr 4 t4 (fun t44 w =>
  M.load1 t44 (fun t45 w =>
  M.callv Try.prog x1 #[t45] (fun t46 w =>
  R t46 w) w) w) w)) w) w) w) w)
  (M.bin .eql t12 (Value.int IntKind.i64 23) (fun t48 w =>
  M.cond t48
  (M.draw (fun w =>
  M.fieldAddr 1 t4 (fun t49 w =>
  M.load1 t49 (fun t50 w =>
  M.fieldAddr 2 t4 (fun t52 w =>
  M.load1 t52 (fun t53 w =>
  M.fieldAddr 3 t4 (fun t55 w =>
  M.load1 t55 (fun t56 w =>
  M.callv Try.prog x1 #[t53] (fun t54 w =>
  ((M.load1 t55 (fun v' _ => v' = t56) w) ∧ ((M.load1 t49 (fun v' _ => v' = t50) w) ∧ M.shift .shr t54 t56 (fun t57 w =>
  M.call Try.prog 61 #[t50, t57] (fun t58 w =>
  ((M.load1 t55 (fun v' _ => v' = t56) w) ∧ R t58 w)) w) w))) w) w) w) w) w) w) w) w)
  (M.bin .eql t12 (Value.int IntKind.i64 24) (fun t60 w =>
  M.cond t60
  (M.draw (fun w =>
  M.fieldAddr 2 t4 (fun t62 w =>
  M.load1 t62 (fun t63 w =>
  M.load1 x3 (fun t65 w =>
  M.fieldAddr 3 t4 (fun t66 w =>
  M.load1 t66 (fun t67 w =>
  M.fieldAddr 3 t4 (fun t71 w =>
  M.load1 t71 (fun t72 w =>
  M.callv Try.prog x1 #[t63] (fun t64 w =>
  ((M.load1 t71 (fun v' _ => v' = t72) w) ∧ ((M.load1 t66 (fun v' _ => v' = t67) w) ∧ ((M.load1 x3 (fun v' _ => v' = t65) w) ∧ M.call Try.prog 63 #[t65, t67] (fun t68 w =>
  ((M.load1 t71 (fun v' _ => v' = t72) w) ∧ M.shift .shl t64 t68 (fun t69 w =>
  M.callv Try.prog x1 #[t72] (fun t73 w =>
  M.bin .or t69 t73 (fun t74 w =>
  R t74 w) w) w) w)) w)))) w) w) w) w) w) w) w) w) w)
  (M.bin .eql t12 (Value.int IntKind.i64 25) (fun t76 w =>
  M.cond t76
  (M.fieldAddr 2 t4 (fun t78 w =>
  M.load1 t78 (fun t79 w =>
  M.callv Try.prog x1 #[t79] (fun t80 w =>
  R t80 w) w) w) w)
  (M.bin .eql t12 (Value.int IntKind.i64 26) (fun t82 w =>
  M.cond t82
  (M.draw (fun w =>
  M.fieldAddr 1 t4 (fun t83 w =>
  M.load1 t83 (fun t84 w =>
  M.load1 x3 (fun t85 w =>
  M.fieldAddr 2 t4 (fun t86 w =>
  M.load1 t86 (fun t87 w =>
  M.fieldAddr 2 t4 (fun t90 w =>
  M.load1 t90 (fun t91 w =>
  M.call Try.prog 63 #[t85, t87] (fun t88 w =>
  ((M.load1 t90 (fun v' _ => v' = t91) w) ∧ ((M.load1 t83 (fun v' _ => v' = t84) w) ∧ M.callv Try.prog x1 #[t91] (fun t92 w =>
  ((M.load1 t83 (fun v' _ => v' = t84) w) ∧ M.call Try.prog 76 #[t88, t92] (fun t93 w =>
  ((M.load1 t83 (fun v' _ => v' = t84) w) ∧ M.conv .u64 t93 (fun t94 w =>
  M.call Try.prog 61 #[t84, t94] (fun t95 w =>
  R t95 w) w) w)) w)) w))) w) w) w) w) w) w) w) w) w)
  (M.share (fun K1 w =>
  M.bin .eql t12 (Value.int IntKind.i64 15) (fun t97 w =>
  M.cond t97
  (K1 [t97] w)
  (M.bin .eql t12 (Value.int IntKind.i64 16) (fun t98 w =>
  K1 [t98] w) w)) w) (fun s1 w => ∀ _ : List Value,
  M.cond (s1.getD 0 undef)
  (M.draw (fun w =>
  M.fieldAddr 0 t4 (fun t100 w =>
  M.load1 t100 (fun t101 w =>
  M.fieldAddr 1 t4 (fun t102 w =>
  M.load1 t102 (fun t103 w =>
  M.fieldAddr 2 t4 (fun t105 w =>
  M.load1 t105 (fun t106 w =>
  M.callv Try.prog x1 #[t106] (fun t107 w =>
  ((M.load1 t102 (fun v' _ => v' = t103) w) ∧ ((M.load1 t100 (fun v' _ => v' = t101) w) ∧ M.call Try.prog 77 #[t101, t103, t107] (fun t108 w =>
  M.extract 0 t108 (fun t109 w =>
  M.extract 1 t108 (fun t110 w =>
  R t109 w) w) w) w))) w) w) w) w) w) w) w) w)
  (M.draw (fun w =>
  M.fieldAddr 0 t4 (fun t113 w =>
  M.load1 t113 (fun t114 w =>
  M.load1 x3 (fun t115 w =>
  M.fieldAddr 2 t4 (fun t116 w =>
  M.load1 t116 (fun t117 w =>
  M.fieldAddr 2 t4 (fun t120 w =>
  M.load1 t120 (fun t121 w =>
  M.fieldAddr 3 t4 (fun t124 w =>
  M.load1 t124 (fun t125 w =>
  M.call Try.prog 63 #[t115, t117] (fun t118 w =>
  ((M.load1 t124 (fun v' _ => v' = t125) w) ∧ ((M.load1 t120 (fun v' _ => v' = t121) w) ∧ ((M.load1 t113 (fun v' _ => v' = t114) w) ∧ M.callv Try.prog x1 #[t121] (fun t122 w =>
  ((M.load1 t124 (fun v' _ => v' = t125) w) ∧ ((M.load1 t113 (fun v' _ => v' = t114) w) ∧ M.callv Try.prog x1 #[t125] (fun t126 w =>
  ((M.load1 t113 (fun v' _ => v' = t114) w) ∧ M.call Try.prog 78 #[t114, t118, t122, t126] (fun t127 w =>
  M.extract 0 t127 (fun t128 w =>
  M.extract 1 t127 (fun t129 w =>
  R t128 w) w) w) w)) w))) w)))) w) w) w) w) w) w) w) w) w) w) w)) w)) w)) w)) w)) w)) w)) w)) w) w) w) w
theorem ok75 (x0 x1 x2 x3 : Value) (R : Kt) (w : World) (h : sh75 x0 x1 x2 x3 R w) : Ret Try.prog 75 #[x0, x1, x2, x3] w R :=
  ret_mk <| calls_of_comp mixed (c := Try.f75.body.getD .skip) (args := [x0, x1, x2, x3]) (rs := [(ResultVar.tmp 6)]) (Ann.seq Ann.text (Ann.seq (Ann.seq Ann.text (Ann.block (Ann.seq Ann.text (Ann.cond (Ann.seq Ann.text Ann.leaf) (Ann.seq Ann.text (Ann.cond (Ann.seq (Ann.seq Ann.text (Ann.cond (Ann.seq Ann.text Ann.leaf) Ann.leaf)) (Ann.seq (Ann.draw (Sch.take 0 (Sch.take 1 (Sch.take 2 (Sch.take 3 (Sch.take 4 (Sch.take 5 (Sch.take 6 (Sch.one 7 (Sch.take 8 Sch.done)))))))))) Ann.leaf)) (Ann.seq Ann.text (Ann.cond (Ann.seq (Ann.seq Ann.text (Ann.cond (Ann.seq Ann.text Ann.leaf) Ann.leaf)) (Ann.seq Ann.text Ann.leaf)) (Ann.seq Ann.text (Ann.cond (Ann.seq (Ann.draw (Sch.take 0 (Sch.take 1 (Sch.take 2 (Sch.take 3 (Sch.take 4 (Sch.take 6 (Sch.take 7 (Sch.one 5 (Sch.take 8 (Sch.one 9 (Sch.take 10 Sch.done)))))))))))) Ann.leaf) (Ann.seq Ann.text (Ann.cond (Ann.seq (Ann.draw (Sch.take 0 (Sch.take 1 (Sch.take 2 (Sch.take 4 (Sch.take 5 (Sch.take 6 (Sch.take 9 (Sch.take 10 (Sch.take 11 (Sch.one 3 (Sch.one 7 (Sch.take 8 (Sch.one 12 (Sch.take 13 (Sch.take 14 Sch.done)))))))))))))))) Ann.leaf) (Ann.seq Ann.text (Ann.cond (Ann.seq Ann.text Ann.leaf) (Ann.seq Ann.text (Ann.cond (Ann.seq (Ann.draw (Sch.take 0 (Sch.take 1 (Sch.take 2 (Sch.take 3 (Sch.take 4 (Sch.take 6 (Sch.take 7 (Sch.take 8 (Sch.one 5 (Sch.one 9 (Sch.one 10 (Sch.take 11 (Sch.one 12 (Sch.take 13 Sch.done))))))))))))))) Ann.leaf) (Ann.join [96] [97, 98] (Ann.seq Ann.text (Ann.cond Ann.leaf Ann.text)) (Ann.cond (Ann.seq (Ann.draw (Sch.take 0 (Sch.take 1 (Sch.take 2 (Sch.take 3 (Sch.take 4 (Sch.take 5 (Sch.take 6 (Sch.one 7 (Sch.one 8 (Sch.take 9 (Sch.take 10 (Sch.take 11 (Sch.take 12 (Sch.take 13 Sch.done))))))))))))))) (Ann.seq Ann.text Ann.leaf)) Ann.leaf)))))))))))))))))) (Ann.seq (Ann.draw (Sch.take 0 (Sch.take 1 (Sch.take 2 (Sch.take 3 (Sch.take 4 (Sch.take 6 (Sch.take 7 (Sch.take 8 (Sch.take 10 (Sch.take 11 (Sch.take 12 (Sch.one 5 (Sch.one 9 (Sch.one 13 (Sch.one 14 (Sch.take 15 (Sch.take 16 (Sch.take 17 (Sch.take 18 (Sch.take 19 Sch.done))))))))))))))))))))) (Ann.seq Ann.text Ann.leaf))))
    Try.func75 (by kernel_rfl) (by kernel_rfl)
    (Eq.mp (by kernel_rfl) h)
/-! breakwater/sem.once[uint64]: function 74 -/
def sh74 (x0 x1 x2 x3 : Value) (R : Kt) (w : World) : Prop :=
  M.new 119 (Value.cells x2) (fun t6 w =>
  M.buildSlice 3 1 #[.int .i64 0] 1 [(0, x1)] (fun t19 w =>
  M.loop [t19] (fun s1 K1 w => ∀ _ : List Value,
  M.len (s1.getD 0 undef) (fun t21 w =>
  M.bin .gtr t21 (Value.int IntKind.i64 0) (fun t22 w =>
  M.cond t22
  (M.share (fun K2 w =>
  M.len (s1.getD 0 undef) (fun t25 w =>
  M.bin .sub t25 (Value.int IntKind.i64 1) (fun t26 w =>
  M.indexSl 1 (s1.getD 0 undef) t26 (fun t27 w =>
  M.load1 t27 (fun t28 w =>
  M.call Try.prog 73 #[x0, t28] (fun t32 w =>
  M.extract 0 t32 (fun t33 w =>
  M.extract 1 t32 (fun t34 w =>
  M.new 78 #[.int .i64 0, .int .i64 0, .int .i64 0, .int .i64 0, .int .i64 0, .int .u64 0] (fun t11 w =>
  M.store 6 t11 t33 (fun _ w =>
  M.loadA 6 t11 (fun t35 w =>
  M.call Try.prog 80 #[t35] (fun t36 w =>
  M.len t36 (fun t37 w =>
  M.loop [(s1.getD 0 undef), (Value.bool false), (Value.int IntKind.i64 0)] (fun s3 K3 w => ∀ _ : List Value,
  M.bin .lss (s3.getD 2 undef) t37 (fun t39 w =>
  M.cond t39
  (M.share (fun K4 w =>
  M.indexSl 1 t36 (s3.getD 2 undef) (fun t40 w =>
  M.load1 t40 (fun t41 w =>
  M.load1 t6 (fun t43 w =>
  readW Try.prog (Instr.lookup 119 t43 t41 true) (fun t45 w =>
  M.extract 0 t45 (fun t46 w =>
  M.extract 1 t45 (fun t47 w =>
  M.not t47 (fun t49 w =>
  M.cond t49
  (M.buildSlice 3 1 #[.int .i64 0] 1 [(0, t41)] (fun t52 w =>
  M.append 3 1 8 #[.int .i64 0] (s3.getD 0 undef) t52 (fun t53 w =>
  K4 [t53, (Value.bool true)] w) w) w)
  (K4 [(s3.getD 0 undef), (s3.getD 1 undef)] w)) w) w) w) w) w) w) w) (fun s4 w => ∀ _ : List Value,
  M.bin .add (s3.getD 2 undef) (Value.int IntKind.i64 1) (fun t54 w =>
  K3 [(s4.getD 0 undef), (s4.getD 1 undef), t54] w) w) w)
  (M.cond (s3.getD 1 undef)
  (K2 [(s3.getD 0 undef)] w)
  (M.len (s3.getD 0 undef) (fun t58 w =>
  M.bin .sub t58 (Value.int IntKind.i64 1) (fun t59 w =>
  M.slice 1 (s3.getD 0 undef) none (some t59) none (fun t60 w =>
  M.draw (fun w =>
  M.load1 t6 (fun t61 w =>
  M.loadA 6 t11 (fun t64 w =>
  M.callv Try.prog x3 #[t64, (.func (Fn.func 81) #[] #[t6])] (fun t66 w =>
  ((M.load1 t6 (fun v' _ => v' = t61) w) ∧ M.unit Try.prog (Instr.mapUpdate 119 t61 t28 t66) (fun _ w =>
  K2 [t60] w) w)) w) w) w) w) w) w) w))) w) w) w) w) w) w) w) w) w) w) w) w) w) w) (fun s2 w => ∀ _ : List Value,
  K1 [(s2.getD 0 undef)] w) w)
  (M.load1 t6 (fun t67 w =>
  readW Try.prog (Instr.lookup 119 t67 x1 false) (fun t69 w =>
  R t69 w) w) w)) w) w) w) w) w
theorem ok74 (x0 x1 x2 x3 : Value) (R : Kt) (w : World) (h : sh74 x0 x1 x2 x3 R w) : Ret Try.prog 74 #[x0, x1, x2, x3] w R :=
  ret_mk <| calls_of_comp mixed (c := Try.f74.body.getD .skip) (args := [x0, x1, x2, x3]) (rs := [(ResultVar.tmp 8)]) (Ann.seq Ann.text (Ann.seq Ann.text (Ann.seq (Ann.block (Ann.loop [9] [10, 11, 12, 13, 15, 16, 17, 20, 21, 22, 23, 24, 25, 26, 27, 28, 29, 30, 31, 32, 33, 34, 35, 36, 37, 38, 39, 40, 41, 42, 43, 44, 45, 46, 47, 48, 49, 50, 51, 52, 53, 54, 55, 56, 57, 58, 59, 60, 61, 62, 63, 64, 65, 66] (Ann.seq (Ann.seq Ann.text (Ann.cond Ann.leaf Ann.leaf)) (Ann.jblock [9] [10, 11, 12, 13, 15, 16, 17, 23, 24, 25, 26, 27, 28, 29, 30, 31, 32, 33, 34, 35, 36, 37, 38, 39, 40, 41, 42, 43, 44, 45, 46, 47, 48, 49, 50, 51, 52, 53, 54, 55, 56, 57, 58, 59, 60, 61, 62, 63, 64, 65, 66] (Ann.seq Ann.text (Ann.seq Ann.text (Ann.seq Ann.text (Ann.seq (Ann.seq Ann.text (Ann.block (Ann.loop [9, 13, 38] [15, 16, 17, 39, 40, 41, 42, 43, 44, 45, 46, 47, 48, 49, 50, 51, 52, 53, 54] (Ann.seq Ann.text (Ann.seq (Ann.cond Ann.leaf Ann.leaf) (Ann.seq (Ann.jblock [9, 13] [15, 16, 17, 40, 41, 42, 43, 44, 45, 46, 47, 48, 49, 50, 51, 52, 53] (Ann.seq Ann.text (Ann.seq Ann.text (Ann.seq Ann.text (Ann.cond (Ann.seq Ann.text Ann.text) Ann.leaf))))) Ann.text)))))) (Ann.seq (Ann.seq Ann.text (Ann.cond Ann.leaf Ann.leaf)) (Ann.seq Ann.text (Ann.draw (Sch.take 0 (Sch.take 1 (Sch.take 2 (Sch.take 3 (Sch.take 4 (Sch.one 5 (Sch.one 6 Sch.done)))))))))))))))))) (Ann.seq Ann.text Ann.leaf))))
    Try.func74 (by kernel_rfl) (by kernel_rfl)
    (Eq.mp (by kernel_rfl) h)
/-! breakwater/sem.once[uint64]$1: function 81 -/
def sh81 (x0 x1 : Value) (R : Kt) (w : World) : Prop :=
  M.load1 x1 (fun t4 w =>
  readW Try.prog (Instr.lookup 119 t4 x0 false) (fun t6 w =>
  R t6 w) w) w
theorem ok81 (x0 x1 : Value) (R : Kt) (w : World) (h : sh81 x0 x1 R w) : Ret Try.prog 81 #[x0, x1] w R :=
  ret_mk <| calls_of_comp mixed (c := Try.f81.body.getD .skip) (args := [x0, x1]) (rs := [(ResultVar.tmp 3)]) (Ann.seq Ann.text (Ann.seq Ann.text Ann.leaf))
    Try.func81 (by kernel_rfl) (by kernel_rfl)
    (Eq.mp (by kernel_rfl) h)
/-! breakwater/sem.Value: function 67 -/
def sh67 (x0 x1 x2 : Value) (R : Kt) (w : World) : Prop :=
  M.new 43 (Value.cells x0) (fun t3 w =>
  M.new 29 (Value.cells x2) (fun t5 w =>
  M.load1 t3 (fun t13 w =>
  M.call Try.prog 73 #[t13, x1] (fun t15 w =>
  M.extract 0 t15 (fun t16 w =>
  M.extract 1 t15 (fun t17 w =>
  M.new 78 #[.int .i64 0, .int .i64 0, .int .i64 0, .int .i64 0, .int .i64 0, .int .u64 0] (fun t8 w =>
  M.store 6 t8 t16 (fun _ w =>
  M.not t17 (fun t19 w =>
  M.cond t19
  (R (.tuple #[(Value.int IntKind.u64 0), (Value.int IntKind.i64 11)]) w)
  (M.val Try.prog (Instr.makeMap 119 none) (fun t20 w =>
  M.load1 t3 (fun t21 w =>
  M.call Try.prog 74 #[t21, x1, t20, (.func (Fn.func 75) #[] #[t5, t3])] (fun t25 w =>
  R (.tuple #[t25, (Value.int IntKind.i64 0)]) w) w) w) w)) w) w) w) w) w) w) w) w) w
theorem ok67 (x0 x1 x2 : Value) (R : Kt) (w : World) (h : sh67 x0 x1 x2 R w) : Ret Try.prog 67 #[x0, x1, x2] w R :=
  ret_mk <| calls_of_comp mixed (c := Try.f67.body.getD .skip) (args := [x0, x1, x2]) (rs := [(ResultVar.tmp 6), (ResultVar.tmp 7)]) (Ann.seq Ann.text (Ann.seq (Ann.seq Ann.text (Ann.seq Ann.text (Ann.cond (Ann.seq Ann.text Ann.leaf) Ann.leaf))) (Ann.seq Ann.text (Ann.seq Ann.text (Ann.seq Ann.text Ann.leaf)))))
    Try.func67 (by kernel_rfl) (by kernel_rfl)
    (Eq.mp (by kernel_rfl) h)

section
variable {N : List Nd} {n : Nd} {f : Int → W64} {env : List W64}
theorem oneV_const (h : n.op = 20) : oneV N n f env = n.val := by
  unfold oneV; rw [if_pos h]
theorem oneV_var (h : n.op = 21) : oneV N n f env = if n.a < (env.length : Int) then cutW n.wd (env.getD n.a.toNat 0) else 0 := by
  unfold oneV
  simp only [if_neg (show ¬ n.op = 20 by omega), if_pos h]
theorem oneV_ite (h : n.op = 22) : oneV N n f env = if f n.a = 1 then f n.b else f n.c := by
  unfold oneV
  simp only [if_neg (show ¬ n.op = 20 by omega), if_neg (show ¬ n.op = 21 by omega), if_pos h]
theorem oneV_ext (h : n.op = 23) : oneV N n f env = cutW n.wd (f n.a >>> n.b.toNat) := by
  unfold oneV
  simp only [if_neg (show ¬ n.op = 20 by omega), if_neg (show ¬ n.op = 21 by omega), if_neg (show ¬ n.op = 22 by omega), if_pos h]
theorem oneV_cat (h : n.op = 24) : oneV N n f env = (f n.a <<< (wdN N n.b).toNat) ||| f n.b := by
  unfold oneV
  simp only [if_neg (show ¬ n.op = 20 by omega), if_neg (show ¬ n.op = 21 by omega), if_neg (show ¬ n.op = 22 by omega), if_neg (show ¬ n.op = 23 by omega), if_pos h]
theorem oneV_zext (h : n.op = 25) : oneV N n f env = f n.a := by
  unfold oneV
  simp only [if_neg (show ¬ n.op = 20 by omega), if_neg (show ¬ n.op = 21 by omega), if_neg (show ¬ n.op = 22 by omega), if_neg (show ¬ n.op = 23 by omega), if_neg (show ¬ n.op = 24 by omega), if_pos h]
theorem oneV_sext (h : n.op = 26) : oneV N n f env = cutW n.wd (sgnW (wdN N n.a) (f n.a)) := by
  unfold oneV
  simp only [if_neg (show ¬ n.op = 20 by omega), if_neg (show ¬ n.op = 21 by omega), if_neg (show ¬ n.op = 22 by omega), if_neg (show ¬ n.op = 23 by omega), if_neg (show ¬ n.op = 24 by omega), if_neg (show ¬ n.op = 25 by omega), if_pos h]
theorem oneV_un (h : n.op = 15 ∨ n.op = 16) : oneV N n f env = unW n.op n.wd (f n.a) := by
  unfold oneV
  simp only [if_neg (show ¬ n.op = 20 by omega), if_neg (show ¬ n.op = 21 by omega), if_neg (show ¬ n.op = 22 by omega), if_neg (show ¬ n.op = 23 by omega), if_neg (show ¬ n.op = 24 by omega), if_neg (show ¬ n.op = 25 by omega), if_neg (show ¬ n.op = 26 by omega), if_pos h]
theorem oneV_bin (h : 1 ≤ n.op) (h2 : n.op ≤ 14) : oneV N n f env = binW n.op (wdN N n.a) (f n.a) (f n.b) := by
  unfold oneV
  simp only [if_neg (show ¬ n.op = 20 by omega), if_neg (show ¬ n.op = 21 by omega), if_neg (show ¬ n.op = 22 by omega), if_neg (show ¬ n.op = 23 by omega), if_neg (show ¬ n.op = 24 by omega), if_neg (show ¬ n.op = 25 by omega), if_neg (show ¬ n.op = 26 by omega), if_neg (show ¬ (n.op = 15 ∨ n.op = 16) by omega)]
end
theorem kids_one {n : Nd} (h : n.op ≠ 20 ∧ n.op ≠ 21 ∧ n.op ≠ 22 ∧ ¬ n.op ≤ 14 ∧ n.op ≠ 24) : kidsN n = [n.a] := by
  unfold kidsN
  rw [if_neg (by omega), if_neg (by omega), if_neg (by omega)]
theorem kids_two {n : Nd} (h : (1 ≤ n.op ∧ n.op ≤ 14) ∨ n.op = 24) : kidsN n = [n.a, n.b] := by
  unfold kidsN
  rw [if_neg (by omega), if_neg (by omega), if_pos (by omega)]
theorem kids_three {n : Nd} (h : n.op = 22) : kidsN n = [n.a, n.b, n.c] := by
  unfold kidsN
  rw [if_neg (by omega), if_pos h]
end Go.Proofs.Ytfffepeloiefiaa
