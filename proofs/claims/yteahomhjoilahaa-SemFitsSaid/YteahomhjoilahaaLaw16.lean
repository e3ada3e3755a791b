import Derived.Test.YteahomhjoilahaaSem16f
import Derived.Test.YteahomhjoilahaaRef16b
import Derived.Test.YteahomhjoilahaaLaw15b
namespace Go.Proofs.Yteahomhjoilahaa
open Go.Mw Go.Maps Go.MapKept
set_option linter.unusedVariables false
set_option linter.unusedSimpArgs false
set_option maxRecDepth 100000
attribute [local irreducible] M.val M.unit M.next M.pick M.new M.nilCheck M.load1 M.loadA M.store M.fieldAddr M.indexSl M.indexArr M.slice M.makeSlice M.buildSlice M.len M.lenS M.cap M.append M.extract M.conv M.not M.neg M.bin M.shift M.eqB M.eqNil M.call M.callv M.gd M.share M.cond M.loop M.draw pureW readW Ret
/-! breakwater/breakwaterlaw16.SemValues: function 3 -/
def sh3 (x0 x1 x2 : Value) (R : Kt) (w : World) : Prop :=
  M.len x0 (fun t18 w =>
  M.bin .gtr t18 (Value.int IntKind.i64 100) (fun t19 w =>
  M.gd t19 false (fun k w => k x1 w) (fun t21 w =>
  M.gd t19 false (fun k w => M.len t21 k w) (fun t22 w =>
  M.gd t19 false (fun k w => M.bin .gtr t22 (Value.int IntKind.i64 300) k w) (fun t23 w =>
  M.pick t19 (Value.bool true) t23 (fun t24 w =>
  M.cond t24
  (M.call Try.prog 5 #[] (fun t25 w =>
  R t25 w) w)
  (M.call Try.prog 6 #[(Value.int IntKind.i64 1000), x0] (fun t28 w =>
  M.extract 0 t28 (fun t29 w =>
  M.extract 1 t28 (fun t30 w =>
  M.new 28 #[.slice none 0 0, .int .i64 0] (fun t8 w =>
  M.store 2 t8 t30 (fun _ w =>
  M.eqNil 0 false t29 (fun t32 w =>
  M.cond t32
  (R (Value.bool false) w)
  (M.loadA 2 t8 (fun t33 w =>
  M.call Try.prog 7 #[t33, x1] (fun t35 w =>
  M.loop [(Value.int IntKind.i64 0)] (fun s1 K1 w => ∀ _ : List Value,
  M.len t35 (fun t38 w =>
  M.bin .lss (s1.getD 0 undef) t38 (fun t39 w =>
  M.cond t39
  (M.call Try.prog 8 #[t29, (s1.getD 0 undef), x1] (fun t46 w =>
  M.extract 0 t46 (fun t47 w =>
  M.extract 1 t46 (fun t48 w =>
  M.draw (fun w =>
  M.indexSl 1 t35 (s1.getD 0 undef) (fun t52 w =>
  M.load1 t52 (fun t53 w =>
  M.bin .neq t47 t53 (fun t54 w =>
  M.gd t54 false (fun k w => k t48 w) (fun t56 w =>
  M.gd t54 false (fun k w => M.bin .neq t56 (Value.int IntKind.i64 0) k w) (fun t57 w =>
  M.pick t54 (Value.bool true) t57 (fun t58 w =>
  M.gd t58 false (fun k w => k t29 w) (fun t60 w =>
  M.gd t58 false (fun k w => k (s1.getD 0 undef) w) (fun t61 w =>
  M.gd t58 false (fun k w => M.loadA 2 t8 k w) (fun t63 w =>
  M.gd t58 false (fun k w => k (s1.getD 0 undef) w) (fun t64 w =>
  M.gd t58 false (fun k w => M.call Try.prog 10 #[t60, t61] k w) (fun t62 w =>
  ((M.gd t58 false (fun k w => M.loadA 2 t8 k w) (fun v' _ => v' = t63) w) ∧ ((M.load1 t52 (fun v' _ => v' = t53) w) ∧ M.gd t58 false (fun k w => M.call Try.prog 11 #[t63, t64] k w) (fun t65 w =>
  ((M.load1 t52 (fun v' _ => v' = t53) w) ∧ M.gd t58 false (fun k w => M.call Try.prog 9 #[t62, t65] k w) (fun t66 w =>
  ((M.load1 t52 (fun v' _ => v' = t53) w) ∧ M.gd t58 false (fun k w => M.not t66 k w) (fun t67 w =>
  M.pick t58 (Value.bool true) t67 (fun t68 w =>
  M.gd t68 false (fun k w => k t29 w) (fun t70 w =>
  M.gd t68 false (fun k w => k (s1.getD 0 undef) w) (fun t71 w =>
  M.gd t68 false (fun k w => M.loadA 2 t8 k w) (fun t73 w =>
  M.gd t68 false (fun k w => k (s1.getD 0 undef) w) (fun t74 w =>
  M.gd t68 false (fun k w => M.call Try.prog 12 #[t70, t71] k w) (fun t72 w =>
  ((M.gd t68 false (fun k w => M.loadA 2 t8 k w) (fun v' _ => v' = t73) w) ∧ ((M.load1 t52 (fun v' _ => v' = t53) w) ∧ M.gd t68 false (fun k w => M.call Try.prog 13 #[t73, t74] k w) (fun t75 w =>
  ((M.load1 t52 (fun v' _ => v' = t53) w) ∧ M.gd t68 false (fun k w => M.bin .neq t72 t75 k w) (fun t76 w =>
  M.pick t68 (Value.bool true) t76 (fun t77 w =>
  M.cond t77
  (R (Value.bool false) w)
  (M.bin .add (s1.getD 0 undef) (Value.int IntKind.i64 1) (fun t41 w =>
  K1 [t41] w) w)) w) w)) w))) w) w) w) w) w) w) w)) w)) w))) w) w) w) w) w) w) w) w) w) w) w) w) w) w) w)
  (M.call Try.prog 8 #[t29, x2, x1] (fun t82 w =>
  M.extract 0 t82 (fun t83 w =>
  M.extract 1 t82 (fun t84 w =>
  M.loadA 2 t8 (fun t86 w =>
  M.call Try.prog 14 #[t86, x2, x1] (fun t89 w =>
  M.extract 0 t89 (fun t90 w =>
  M.extract 1 t89 (fun t91 w =>
  M.bin .eql t83 t90 (fun t94 w =>
  M.gd t94 true (fun k w => k t84 w) (fun t96 w =>
  M.gd t94 true (fun k w => k t91 w) (fun t97 w =>
  M.gd t94 true (fun k w => M.bin .eql t96 t97 k w) (fun t98 w =>
  M.pick t94 t98 (Value.bool false) (fun t99 w =>
  M.gd t99 true (fun k w => M.call Try.prog 5 #[] k w) (fun t101 w =>
  M.pick t99 t101 (Value.bool false) (fun t102 w =>
  R t102 w) w) w) w) w) w) w) w) w) w) w) w) w) w) w)) w) w) w) w) w)) w) w) w) w) w) w)) w) w) w) w) w) w
theorem ok3 (x0 x1 x2 : Value) (R : Kt) (w : World) (h : sh3 x0 x1 x2 R w) : Ret Try.prog 3 #[x0, x1, x2] w R :=
  ret_mk <| calls_of_comp mixed (c := Try.f3.body.getD .skip) (args := [x0, x1, x2]) (rs := [(ResultVar.tmp 6)]) (Ann.seq Ann.text (Ann.seq (Ann.seq Ann.text (Ann.cond (Ann.seq Ann.text Ann.leaf) Ann.leaf)) (Ann.seq Ann.text (Ann.seq (Ann.seq Ann.text (Ann.cond (Ann.seq Ann.text Ann.leaf) Ann.leaf)) (Ann.seq Ann.text (Ann.seq (Ann.seq Ann.text (Ann.block (Ann.loop [10] [6, 11, 12, 36, 37, 38, 39, 40, 41, 42, 43, 44, 45, 46, 47, 48, 49, 50, 51, 52, 53, 54, 55, 56, 57, 58, 59, 60, 61, 62, 63, 64, 65, 66, 67, 68, 69, 70, 71, 72, 73, 74, 75, 76, 77] (Ann.seq (Ann.seq Ann.text (Ann.cond Ann.leaf Ann.leaf)) (Ann.seq (Ann.block (Ann.seq Ann.text (Ann.seq (Ann.draw (Sch.take 0 (Sch.take 1 (Sch.take 2 (Sch.take 3 (Sch.take 4 (Sch.take 5 (Sch.take 6 (Sch.take 7 (Sch.take 8 (Sch.take 9 (Sch.take 10 (Sch.take 11 (Sch.take 12 (Sch.take 14 (Sch.take 15 (Sch.one 13 (Sch.one 16 (Sch.one 17 (Sch.take 18 (Sch.take 19 (Sch.take 20 (Sch.take 21 (Sch.take 22 (Sch.take 24 (Sch.take 25 (Sch.one 23 (Sch.one 26 (Sch.take 27 (Sch.take 28 Sch.done)))))))))))))))))))))))))))))) (Ann.cond (Ann.seq Ann.text Ann.leaf) Ann.leaf)))) Ann.text))))) (Ann.seq Ann.text (Ann.seq Ann.text (Ann.seq Ann.text Ann.leaf)))))))))
    Try.func3 (by kernel_rfl) (by kernel_rfl)
    (Eq.mp (by kernel_rfl) h)
/-! breakwater/breakwaterlaw16.SemFits: function 4 -/
def sh4 (x0 x1 x2 : Value) (R : Kt) (w : World) : Prop :=
  M.len x0 (fun t20 w =>
  M.bin .gtr t20 (Value.int IntKind.i64 100) (fun t21 w =>
  M.gd t21 false (fun k w => k x1 w) (fun t23 w =>
  M.gd t21 false (fun k w => M.len t23 k w) (fun t24 w =>
  M.gd t21 false (fun k w => M.bin .gtr t24 (Value.int IntKind.i64 300) k w) (fun t25 w =>
  M.pick t21 (Value.bool true) t25 (fun t26 w =>
  M.gd t26 false (fun k w => k x2 w) (fun t28 w =>
  M.gd t26 false (fun k w => M.len t28 k w) (fun t29 w =>
  M.gd t26 false (fun k w => M.bin .gtr t29 (Value.int IntKind.i64 300) k w) (fun t30 w =>
  M.pick t26 (Value.bool true) t30 (fun t31 w =>
  M.cond t31
  (M.call Try.prog 5 #[] (fun t32 w =>
  R t32 w) w)
  (M.call Try.prog 6 #[(Value.int IntKind.i64 1000), x0] (fun t35 w =>
  M.extract 0 t35 (fun t36 w =>
  M.extract 1 t35 (fun t37 w =>
  M.new 28 #[.slice none 0 0, .int .i64 0] (fun t8 w =>
  M.store 2 t8 t37 (fun _ w =>
  M.eqNil 0 false t36 (fun t39 w =>
  M.cond t39
  (R (Value.bool false) w)
  (M.loop [(Value.int IntKind.i64 0)] (fun s1 K1 w => ∀ _ : List Value,
  M.fieldAddr 0 t8 (fun t41 w =>
  M.load1 t41 (fun t42 w =>
  M.len t42 (fun t43 w =>
  M.bin .lss (s1.getD 0 undef) t43 (fun t44 w =>
  M.cond t44
  (M.call Try.prog 8 #[t36, (s1.getD 0 undef), x1] (fun t51 w =>
  M.extract 0 t51 (fun t52 w =>
  M.extract 1 t51 (fun t53 w =>
  M.loadA 2 t8 (fun t54 w =>
  M.call Try.prog 16 #[t54, (s1.getD 0 undef)] (fun t56 w =>
  M.call Try.prog 15 #[t56, t52] (fun t58 w =>
  M.bin .neq t58 t52 (fun t60 w =>
  M.cond t60
  (R (Value.bool false) w)
  (M.call Try.prog 10 #[t36, (s1.getD 0 undef)] (fun t63 w =>
  M.loop [(Value.bool true), (Value.int IntKind.i64 0)] (fun s2 K2 w => ∀ _ : List Value,
  M.len t63 (fun t66 w =>
  M.bin .lss (s2.getD 1 undef) t66 (fun t67 w =>
  M.cond t67
  (M.share (fun K3 w =>
  M.indexSl 1 t63 (s2.getD 1 undef) (fun t72 w =>
  M.load1 t72 (fun t73 w =>
  M.len x1 (fun t75 w =>
  M.bin .lss t73 t75 (fun t76 w =>
  M.cond t76
  (M.indexSl 1 t63 (s2.getD 1 undef) (fun t80 w =>
  M.load1 t80 (fun t81 w =>
  M.indexSl 1 x1 t81 (fun t82 w =>
  M.load1 t82 (fun t83 w =>
  K3 [t83] w) w) w) w) w)
  (K3 [(Value.int IntKind.u64 0)] w)) w) w) w) w) (fun s3 w => ∀ _ : List Value,
  M.share (fun K4 w =>
  M.indexSl 1 t63 (s2.getD 1 undef) (fun t86 w =>
  M.load1 t86 (fun t87 w =>
  M.len x2 (fun t89 w =>
  M.bin .lss t87 t89 (fun t90 w =>
  M.cond t90
  (M.indexSl 1 t63 (s2.getD 1 undef) (fun t94 w =>
  M.load1 t94 (fun t95 w =>
  M.indexSl 1 x2 t95 (fun t96 w =>
  M.load1 t96 (fun t97 w =>
  K4 [t97] w) w) w) w) w)
  (K4 [(Value.int IntKind.u64 0)] w)) w) w) w) w) (fun s4 w => ∀ _ : List Value,
  M.gd (s2.getD 0 undef) true (fun k w => k (s3.getD 0 undef) w) (fun t100 w =>
  M.gd (s2.getD 0 undef) true (fun k w => k (s4.getD 0 undef) w) (fun t101 w =>
  M.gd (s2.getD 0 undef) true (fun k w => M.bin .eql t100 t101 k w) (fun t102 w =>
  M.pick (s2.getD 0 undef) t102 (Value.bool false) (fun t103 w =>
  M.bin .add (s2.getD 1 undef) (Value.int IntKind.i64 1) (fun t69 w =>
  K2 [t103, t69] w) w) w) w) w) w) w) w)
  (M.call Try.prog 8 #[t36, (s1.getD 0 undef), x2] (fun t108 w =>
  M.extract 0 t108 (fun t109 w =>
  M.extract 1 t108 (fun t110 w =>
  M.gd (s2.getD 0 undef) true (fun k w => k t52 w) (fun t113 w =>
  M.gd (s2.getD 0 undef) true (fun k w => k t109 w) (fun t114 w =>
  M.gd (s2.getD 0 undef) true (fun k w => M.bin .neq t113 t114 k w) (fun t115 w =>
  M.pick (s2.getD 0 undef) t115 (Value.bool false) (fun t116 w =>
  M.cond t116
  (R (Value.bool false) w)
  (M.bin .add (s1.getD 0 undef) (Value.int IntKind.i64 1) (fun t46 w =>
  K1 [t46] w) w)) w) w) w) w) w) w) w)) w) w) w) w)) w) w) w) w) w) w) w)
  (M.call Try.prog 5 #[] (fun t117 w =>
  R t117 w) w)) w) w) w) w) w)) w) w) w) w) w) w)) w) w) w) w) w) w) w) w) w) w
theorem ok4 (x0 x1 x2 : Value) (R : Kt) (w : World) (h : sh4 x0 x1 x2 R w) : Ret Try.prog 4 #[x0, x1, x2] w R :=
  ret_mk <| calls_of_comp mixed (c := Try.f4.body.getD .skip) (args := [x0, x1, x2]) (rs := [(ResultVar.tmp 6)]) (Ann.seq Ann.text (Ann.seq (Ann.seq Ann.text (Ann.cond (Ann.seq Ann.text Ann.leaf) Ann.leaf)) (Ann.seq Ann.text (Ann.seq (Ann.seq Ann.text (Ann.cond (Ann.seq Ann.text Ann.leaf) Ann.leaf)) (Ann.seq (Ann.seq Ann.text (Ann.block (Ann.loop [9] [6, 10, 11, 12, 13, 14, 15, 16, 17, 18, 40, 41, 42, 43, 44, 45, 46, 47, 48, 49, 50, 51, 52, 53, 54, 55, 56, 57, 58, 59, 60, 61, 62, 63, 64, 65, 66, 67, 68, 69, 70, 71, 72, 73, 74, 75, 76, 77, 78, 79, 80, 81, 82, 83, 84, 85, 86, 87, 88, 89, 90, 91, 92, 93, 94, 95, 96, 97, 98, 99, 100, 101, 102, 103, 104, 105, 106, 107, 108, 109, 110, 111, 112, 113, 114, 115, 116] (Ann.seq (Ann.seq Ann.text (Ann.cond Ann.leaf Ann.leaf)) (Ann.seq (Ann.block (Ann.seq Ann.text (Ann.seq (Ann.seq Ann.text (Ann.cond (Ann.seq Ann.text Ann.leaf) Ann.leaf)) (Ann.seq Ann.text (Ann.seq Ann.text (Ann.seq (Ann.seq Ann.text (Ann.block (Ann.loop [13, 14] [15, 16, 64, 65, 66, 67, 68, 69, 70, 71, 72, 73, 74, 75, 76, 77, 78, 79, 80, 81, 82, 83, 84, 85, 86, 87, 88, 89, 90, 91, 92, 93, 94, 95, 96, 97, 98, 99, 100, 101, 102, 103] (Ann.seq (Ann.seq Ann.text (Ann.cond Ann.leaf Ann.leaf)) (Ann.seq (Ann.block (Ann.seq Ann.text (Ann.join [15] [70, 71, 72, 73, 74, 75, 76, 77, 78, 79, 80, 81, 82, 83] (Ann.seq Ann.text (Ann.cond Ann.text Ann.leaf)) (Ann.join [16] [84, 85, 86, 87, 88, 89, 90, 91, 92, 93, 94, 95, 96, 97] (Ann.seq Ann.text (Ann.cond Ann.text Ann.leaf)) Ann.text)))) Ann.text))))) (Ann.seq Ann.text (Ann.seq Ann.text (Ann.cond (Ann.seq Ann.text Ann.leaf) Ann.leaf))))))))) Ann.text))))) (Ann.seq Ann.text Ann.leaf))))))
    Try.func4 (by kernel_rfl) (by kernel_rfl)
    (Eq.mp (by kernel_rfl) h)
/-! breakwater/breakwaterlaw16.awake: function 5 -/
def sh5 (R : Kt) (w : World) : Prop :=
  M.call Try.prog 17 #[(Value.int IntKind.i64 9)] (fun t18 w =>
  M.eqNil 0 false t18 (fun t20 w =>
  M.cond t20
  (R (Value.bool false) w)
  (M.call Try.prog 18 #[t18, (Value.int IntKind.i64 8), (Value.int IntKind.i64 1)] (fun t23 w =>
  M.extract 0 t23 (fun t24 w =>
  M.extract 1 t23 (fun t25 w =>
  M.call Try.prog 19 #[t18, (Value.int IntKind.i64 8), (Value.int IntKind.u64 1)] (fun t28 w =>
  M.extract 0 t28 (fun t29 w =>
  M.extract 1 t28 (fun t30 w =>
  M.call Try.prog 20 #[t18, (Value.int IntKind.i64 1), t24, t29] (fun t35 w =>
  M.extract 0 t35 (fun t36 w =>
  M.extract 1 t35 (fun t37 w =>
  M.call Try.prog 21 #[t18, t36, t24] (fun t42 w =>
  M.extract 0 t42 (fun t43 w =>
  M.extract 1 t42 (fun t44 w =>
  M.buildSlice 32 1 #[.int .u64 0] 2 [(0, (Value.int IntKind.u64 0)), (1, (Value.int IntKind.u64 255))] (fun t48 w =>
  M.call Try.prog 8 #[t18, t36, t48] (fun t49 w =>
  M.extract 0 t49 (fun t50 w =>
  M.extract 1 t49 (fun t51 w =>
  M.buildSlice 32 1 #[.int .u64 0] 2 [(0, (Value.int IntKind.u64 0)), (1, (Value.int IntKind.u64 1))] (fun t55 w =>
  M.call Try.prog 8 #[t18, t43, t55] (fun t56 w =>
  M.extract 0 t56 (fun t57 w =>
  M.extract 1 t56 (fun t58 w =>
  M.call Try.prog 8 #[t18, t24, (Value.slice none 0 0)] (fun t62 w =>
  M.extract 0 t62 (fun t63 w =>
  M.extract 1 t62 (fun t64 w =>
  M.call Try.prog 8 #[t18, (Value.int IntKind.i64 9), (Value.slice none 0 0)] (fun t67 w =>
  M.extract 0 t67 (fun t68 w =>
  M.extract 1 t67 (fun t69 w =>
  M.bin .eql t50 (Value.int IntKind.u64 0) (fun t71 w =>
  M.gd t71 true (fun k w => k t51 w) (fun t73 w =>
  M.gd t71 true (fun k w => M.bin .eql t73 (Value.int IntKind.i64 0) k w) (fun t74 w =>
  M.pick t71 t74 (Value.bool false) (fun t75 w =>
  M.gd t75 true (fun k w => k t57 w) (fun t77 w =>
  M.gd t75 true (fun k w => M.bin .eql t77 (Value.int IntKind.u64 513) k w) (fun t78 w =>
  M.pick t75 t78 (Value.bool false) (fun t79 w =>
  M.gd t79 true (fun k w => k t58 w) (fun t81 w =>
  M.gd t79 true (fun k w => M.bin .eql t81 (Value.int IntKind.i64 0) k w) (fun t82 w =>
  M.pick t79 t82 (Value.bool false) (fun t83 w =>
  M.gd t83 true (fun k w => k t63 w) (fun t85 w =>
  M.gd t83 true (fun k w => M.bin .eql t85 (Value.int IntKind.u64 0) k w) (fun t86 w =>
  M.pick t83 t86 (Value.bool false) (fun t87 w =>
  M.gd t87 true (fun k w => k t64 w) (fun t89 w =>
  M.gd t87 true (fun k w => M.bin .eql t89 (Value.int IntKind.i64 0) k w) (fun t90 w =>
  M.pick t87 t90 (Value.bool false) (fun t91 w =>
  M.gd t91 true (fun k w => k t69 w) (fun t93 w =>
  M.gd t91 true (fun k w => M.bin .eql t93 (Value.int IntKind.i64 11) k w) (fun t94 w =>
  M.pick t91 t94 (Value.bool false) (fun t95 w =>
  M.gd t95 true (fun k w => k t18 w) (fun t97 w =>
  M.gd t95 true (fun k w => k t43 w) (fun t98 w =>
  M.gd t95 true (fun k w => M.call Try.prog 10 #[t97, t98] k w) (fun t99 w =>
  M.gd t95 true (fun k w => M.buildSlice 3 1 #[.int .i64 0] 1 [(0, (Value.int IntKind.i64 1))] k w) (fun t100 w =>
  M.gd t95 true (fun k w => M.call Try.prog 9 #[t99, t100] k w) (fun t101 w =>
  M.pick t95 t101 (Value.bool false) (fun t102 w =>
  M.gd t102 true (fun k w => k t18 w) (fun t104 w =>
  M.gd t102 true (fun k w => k t43 w) (fun t105 w =>
  M.gd t102 true (fun k w => M.call Try.prog 12 #[t104, t105] k w) (fun t106 w =>
  M.gd t102 true (fun k w => M.bin .eql t106 (Value.int IntKind.i64 4) k w) (fun t107 w =>
  M.pick t102 t107 (Value.bool false) (fun t108 w =>
  M.gd t108 true (fun k w => k t18 w) (fun t110 w =>
  M.gd t108 true (fun k w => M.call Try.prog 12 #[t110, (Value.int IntKind.i64 (-1))] k w) (fun t111 w =>
  M.gd t108 true (fun k w => M.bin .eql t111 (Value.int IntKind.i64 0) k w) (fun t112 w =>
  M.pick t108 t112 (Value.bool false) (fun t113 w =>
  R t113 w) w) w) w) w) w) w) w) w) w) w) w) w) w) w) w) w) w) w) w) w) w) w) w) w) w) w) w) w) w) w) w) w) w) w) w) w) w) w) w) w) w) w) w) w) w) w) w) w) w) w) w) w) w) w) w) w) w) w) w) w)) w) w
theorem ok5 (R : Kt) (w : World) (h : sh5 R w) : Ret Try.prog 5 #[] w R :=
  ret_mk <| calls_of_comp mixed (c := Try.f5.body.getD .skip) (args := []) (rs := [(ResultVar.tmp 0)]) (Ann.seq Ann.text (Ann.seq Ann.text (Ann.seq (Ann.seq Ann.text (Ann.cond (Ann.seq Ann.text Ann.leaf) Ann.leaf)) (Ann.seq Ann.text (Ann.seq Ann.text (Ann.seq Ann.text (Ann.seq Ann.text (Ann.seq Ann.text (Ann.seq Ann.text (Ann.seq Ann.text (Ann.seq Ann.text (Ann.seq Ann.text Ann.leaf))))))))))))
    Try.func5 (by kernel_rfl) (by kernel_rfl)
    (Eq.mp (by kernel_rfl) h)

theorem GI.lv {w : World} {L : Nat → Prop} {v : Value} {xs : List Int} (h : GI w L v xs) : LV vi w L v xs := by
  obtain ⟨A, c, rfl, h2, h3⟩ := GC.row2 h (by omega)
  exact ⟨A, c, rfl, h2, h3⟩
theorem valW_of {N : List Nd} {env : List W64} {i : Int} (h : isN N i = true) : (valsU N env N.length).getD i.toNat 0 = valW N env i := by
  unfold valW; rw [if_pos h]; rfl
section
variable {w : World} {D : Nat → Prop} {v : Value} {N : List Nd} {most : Int}
theorem rvars_ret (hd : RD w D v N most) (hN : N.length ≤ 1000000) (hG : GoodN N) (it : Int) :
    Ret Try.prog 11 #[v, vi it] w (fun r w' => GI w' (w.heap.size ≤ ·) r (varsN N it) ∧ Keep w w' No) := by
  obtain ⟨A, c, rfl, hr⟩ := id hd
  refine ok11 _ _ _ _ ?_
  unfold sh11
  refine M.new_i (l := [.slice A N.length c, vi most]) (fun w1 b1 k1 s1 => ?_)
  refine M.loadAll_i b1 rfl ?_
  refine M.call_i (rbelow_ret (hd.keep k1 (fun _ _ _ h => h)) hN hG it) ?_; rintro _ w2 ⟨out, ⟨B, cb, rfl, hrb, _⟩, ho1, ho2, k2⟩
  have b2 := b1.keep k2 (fun h => h)
  have k02 := k1.trans k2 (fun _ _ h => h)
  have q1 := k1.size; have q2 := k2.size
  have hol : out.length ≤ N.length := by rw [nodup_len ho2 (nodup_belN N it) ho1]; exact belN_len
  have hrb := hrb.mono (D' := (· < w2.heap.size)) (fun b hb h => hb)
  have hin : ∀ x ∈ out, isN N x = true := fun x hx => by
    obtain ⟨h1, h2⟩ := (mem_belN hG).1 ((ho1 x).1 hx)
    exact h2.is hG h1
  refine M.loop_i (σ := Nat) (fun i vals w' => ∃ sv, vals = [sv, vi i] ∧ i ≤ out.length ∧ GI w' (w2.heap.size ≤ ·) sv (varsA N (out.take i)) ∧ Keep w2 w' (w2.heap.size ≤ ·)) (fun i => out.length - i) 0 ⟨_, rfl, by omega, GI.nil _ _, Keep.refl _ _⟩ ?_
  rintro i vals w3 K ⟨sv, rfl, hi, g3, k3⟩ hK _
  simp only [List.getD_cons_zero, List.getD_cons_succ]
  have q3 := k3.size
  by_cases hlt : i < out.length
  · obtain ⟨x, hx⟩ : ∃ x, out[i]? = some x := ⟨_, List.getElem?_eq_getElem hlt⟩
    have hxN := hin x (List.mem_of_getElem? hx)
    obtain ⟨j, n, rfl, hn⟩ := isN_get hxN
    have et : varsA N (out.take (i + 1)) = varsA N (out.take i) ++ (if n.op = 21 then [n.a] else []) := by
      rw [List.take_add_one, hx, varsA_app]
      congr 1
      unfold varsA
      by_cases ho : n.op = 21 <;> simp [hn, ho]
    have kd := Keep.drew w3 No
    have k2d := k3.trans kd (fun _ _ h => h.elim)
    have bd := b2.keep k2d (fun h => by have h : w2.heap.size ≤ w.heap.size := h; omega)
    have k0d : Keep w w3.drew No := k02.trans k2d (fun b hb h => by have h : w2.heap.size ≤ b := h; omega)
    have hrbd := hrb.keep k2d (fun b hb h1 h2 => by have h1 : b < w2.heap.size := h1; have h2 : w2.heap.size ≤ b := h2; omega)
    have hrd := hr.keep k0d (fun _ _ _ h => h)
    (repeat (first|refine ja ?_|refine jb ?_|refine jc ?_|refine jd ?_|refine je ?_|refine jf ?_|refine jg ?_|refine jh ?_|refine ji ?_|refine jj ?_|refine jk ?_|refine jl ?_|refine jm ?_|refine jn ?_|refine jo ?_|refine jp ?_|refine jq ?_|refine jr ?_|refine js ?_|refine jt ?_|refine ju ?_|refine jv ?_|refine jw ?_|refine jx ?_|refine jy ?_|refine jz ?_|refine jA ?_|refine jB ?_|refine jC ?_|refine jD ?_|refine jE ?_|refine jF ?_|refine jG ?_|refine jH ?_|refine jI ?_|refine jJ ?_|refine jK ?_|refine jL ?_|refine jM (by assumption) ?_|refine jN (by assumption) rfl ?_|refine jO (by assumption) ?_|refine jP (by assumption) rfl ?_|refine jQ ?_|refine jR ?_|refine jS ?_|refine jT ?_|refine jU (by assumption) rfl ?_))
    refine M.share_j (fun vals w' => ∃ sv, vals = [sv] ∧ GI w' (w2.heap.size ≤ ·) sv (varsA N (out.take (i + 1))) ∧ Keep w2 w' (w2.heap.size ≤ ·)) ?_ ?_
    · rintro vals w4 ⟨sv, rfl, g4, k4⟩ _
      simp only [List.getD_cons_zero, List.getD_cons_succ]
      (repeat (first|refine ja ?_|refine jb ?_|refine jc ?_|refine jd ?_|refine je ?_|refine jf ?_|refine jg ?_|refine jh ?_|refine ji ?_|refine jj ?_|refine jk ?_|refine jl ?_|refine jm ?_|refine jn ?_|refine jo ?_|refine jp ?_|refine jq ?_|refine jr ?_|refine js ?_|refine jt ?_|refine ju ?_|refine jv ?_|refine jw ?_|refine jx ?_|refine jy ?_|refine jz ?_|refine jA ?_|refine jB ?_|refine jC ?_|refine jD ?_|refine jE ?_|refine jF ?_|refine jG ?_|refine jH ?_|refine jI ?_|refine jJ ?_|refine jK ?_|refine jL ?_|refine jM (by assumption) ?_|refine jN (by assumption) rfl ?_|refine jO (by assumption) ?_|refine jP (by assumption) rfl ?_|refine jQ ?_|refine jR ?_|refine jS ?_|refine jT ?_|refine jU (by assumption) rfl ?_))
      exact hK (i + 1) _ _ (by omega) ⟨sv, rfl, by omega, g4, k4⟩
    · intro K2 hK2
      refine M.draw_i ?_
      refine M.field_i ?_
      refine M.loadB_i bd rfl ?_
      refine M.idxLV_i hrbd rfl (by omega) (by omega) (x := (j : Int)) (by simpa using hx) (fun bb oo hA hcc => ?_)
      refine M.load_i hcc ?_
      refine M.idxN_i hrd rfl (by omega) (n := n) (by rw [Int.toNat_natCast]; exact hn) (fun b1' o1' hc => ?_)
      refine M.field_i ?_
      refine M.load_i (hc 0 _ rfl) ?_
      by_cases ho : n.op = 21
      · rw [if_pos ho] at et
        (repeat (first|refine ja ?_|refine jb ?_|refine jc ?_|refine jd ?_|refine je ?_|refine jf ?_|refine jg ?_|refine jh ?_|refine ji ?_|refine jj ?_|refine jk ?_|refine jl ?_|refine jm ?_|refine jn ?_|refine jo ?_|refine jp ?_|refine jq ?_|refine jr ?_|refine js ?_|refine jt ?_|refine ju ?_|refine jv ?_|refine jw ?_|refine jx ?_|refine jy ?_|refine jz ?_|refine jA ?_|refine jB ?_|refine jC ?_|refine jD ?_|refine jE ?_|refine jF ?_|refine jG ?_|refine jH ?_|refine jI ?_|refine jJ ?_|refine jK ?_|refine jL ?_|refine jM (by assumption) ?_|refine jN (by assumption) rfl ?_|refine jO (by assumption) ?_|refine jP (by assumption) rfl ?_|refine jQ ?_|refine jR ?_|refine jS ?_|refine jT ?_|refine jU (by assumption) rfl ?_))
        have kdd := Keep.drew w3.drew No
        have k2e := k2d.trans kdd (fun _ _ h => h.elim)
        have be := bd.keep kdd (fun h => h)
        have hrbe := hrbd.keep kdd (fun _ _ _ h => h)
        have hre := hrd.keep kdd (fun _ _ _ h => h)
        have ge := (g3.keep kd (fun _ _ _ h => h)).keep kdd (fun _ _ _ h => h)
        refine M.idxLV_i hrbe rfl (by omega) (by omega) (x := (j : Int)) (by simpa using hx) (fun b2' o2' hA2 hcc2 => ?_)
        have hb2 : b2' < w2.heap.size := by
          rcases hrb with h | ⟨bq, oq, cq, Tq, fq, hq1, hq2, _⟩
          · have : out = [] := by simpa using h
            rw [this] at hlt; simp at hlt
          · rw [hq1] at hA2
            simp only [Option.some.injEq, Addr.mk.injEq] at hA2
            rw [← hA2.1]; exact hq2
        refine M.load_i hcc2 ?_
        refine M.idxN_i hre rfl (by omega) (n := n) (by rw [Int.toNat_natCast]; exact hn) (fun b3' o3' hc3 => ?_)
        refine M.field_i ?_
        refine M.load_i (hc3 2 _ rfl) ?_
        refine M.buildSlice_i [vi n.a] (by kernel_rfl) (fun w4 b4 k4 s4 => ?_)
        refine M.st_i (k4.cell (fun h => h) hcc2) ?_
        refine M.stB_i (be.keep k4 (fun h => h)) rfl ?_
        have hvl := varsA_len (N := N) (l := out.take i)
        rw [List.length_take] at hvl
        refine M.append1_i (ge.keep k4 (fun _ _ _ h => h)) (Row.of_blk' (D := fun _ => True) b4 trivial) rfl (by omega) (fun v5 w5 g5 k5 => ?_)
        have q4 := k4.size
        have e3 : w3.drew.drew.heap.size = w3.heap.size := rfl
        refine M.st_i (k5.cell (fun h => by have h : w2.heap.size ≤ b2' := h; omega) (k4.cell (fun h => h) hcc2)) ?_
        refine M.stB_i ((be.keep k4 (fun h => h)).keep k5 (fun h => by have h : w2.heap.size ≤ w.heap.size := h; omega)) rfl ?_
        refine hK2 _ _ ⟨v5, rfl, ?_, (k2e.trans k4 (fun _ _ h => h.elim)).trans k5 (fun _ _ h => h)⟩
        rw [et]
        exact g5.mono (fun b hb h => by
          rcases h with h | h
          · exact h
          · show w2.heap.size ≤ b; omega)
      · rw [if_neg ho, List.append_nil] at et
        (repeat (first|refine ja ?_|refine jb ?_|refine jc ?_|refine jd ?_|refine je ?_|refine jf ?_|refine jg ?_|refine jh ?_|refine ji ?_|refine jj ?_|refine jk ?_|refine jl ?_|refine jm ?_|refine jn ?_|refine jo ?_|refine jp ?_|refine jq ?_|refine jr ?_|refine js ?_|refine jt ?_|refine ju ?_|refine jv ?_|refine jw ?_|refine jx ?_|refine jy ?_|refine jz ?_|refine jA ?_|refine jB ?_|refine jC ?_|refine jD ?_|refine jE ?_|refine jF ?_|refine jG ?_|refine jH ?_|refine jI ?_|refine jJ ?_|refine jK ?_|refine jL ?_|refine jM (by assumption) ?_|refine jN (by assumption) rfl ?_|refine jO (by assumption) ?_|refine jP (by assumption) rfl ?_|refine jQ ?_|refine jR ?_|refine jS ?_|refine jT ?_|refine jU (by assumption) rfl ?_))
        refine hK2 _ _ ⟨_, rfl, ?_, k2d⟩
        rw [et]; exact g3.keep kd (fun _ _ _ h => h)
  · have e : i = out.length := by omega
    subst e
    rw [List.take_length] at g3
    have hvl := varsA_len (N := N) (l := out)
    (repeat (first|refine ja ?_|refine jb ?_|refine jc ?_|refine jd ?_|refine je ?_|refine jf ?_|refine jg ?_|refine jh ?_|refine ji ?_|refine jj ?_|refine jk ?_|refine jl ?_|refine jm ?_|refine jn ?_|refine jo ?_|refine jp ?_|refine jq ?_|refine jr ?_|refine js ?_|refine jt ?_|refine ju ?_|refine jv ?_|refine jw ?_|refine jx ?_|refine jy ?_|refine jz ?_|refine jA ?_|refine jB ?_|refine jC ?_|refine jD ?_|refine jE ?_|refine jF ?_|refine jG ?_|refine jH ?_|refine jI ?_|refine jJ ?_|refine jK ?_|refine jL ?_|refine jM (by assumption) ?_|refine jN (by assumption) rfl ?_|refine jO (by assumption) ?_|refine jP (by assumption) rfl ?_|refine jQ ?_|refine jR ?_|refine jS ?_|refine jT ?_|refine jU (by assumption) rfl ?_))
    refine M.call_i (sorted_ret (GI.lv g3) (by show _ ≤ 100000000000; omega)) ?_; rintro _ w4 ⟨g4, k4⟩
    rw [varsN_of ho1] at g4
    exact ⟨g4.mono (fun b _ h => by have h : w3.heap.size ≤ b := h; show w.heap.size ≤ b; omega), (k02.trans k3 (fun b hb h => by have h : w2.heap.size ≤ b := h; omega)).trans k4 (fun _ _ h => h)⟩
end
/-! ### the example -/
def belF (N : List Nd) : Nat → List Bool → List Int → List Int
  | 0, _, out => out
  | m + 1, inn, out => match N[m]? with
    | some n => if inn[m]? = some true then belF N m (setK inn (kidsN n)) (out ++ [(m : Int)]) else belF N m inn out
    | none => belF N m inn out
theorem belF_of {N : List Nd} {it : Int} (hG : GoodN N) (hid : isN N it = true) : ∀ (m : Nat) (inn : List Bool) (out : List Int), Bel N it m inn out → Bel N it 0 (List.replicate 0 true) [] ∨ ∃ inn', Bel N it 0 inn' (belF N m inn out)
  | 0, inn, out, h => .inr ⟨inn, h⟩
  | m + 1, inn, out, h => by
    unfold belF
    cases hn : N[m]? with
    | none =>
      refine belF_of hG hid m inn out (h.skip (fun hm => ?_))
      have h1 := (List.getElem?_eq_some_iff.1 hm).1
      have h2 := h.len
      have h3 := isN_iff.1 hid
      rw [List.getElem?_eq_none_iff] at hn
      omega
    | some n =>
      by_cases hm : inn[m]? = some true
      · simp only [if_pos hm]
        exact belF_of hG hid m _ _ (h.take hG hm hn)
      · simp only [if_neg hm]
        exact belF_of hG hid m _ _ (h.skip hm)
theorem belN_calc {N : List Nd} {it : Int} (hG : GoodN N) (hid : isN N it = true) {l : List Int} (h : belF N (it.toNat + 1) ((List.replicate (it.toNat + 1) false).set it.toNat true) [] = l) : (∀ x, x ∈ l ↔ x ∈ belN N it) ∧ (belN N it).length = l.length := by
  subst h
  rcases belF_of hG hid _ _ _ (Bel.start hid) with h | ⟨inn, h⟩
  · have := h.len; simp at this
  · have h1 := h.done hG hid
    exact ⟨h1, (nodup_len h.nodup (nodup_belN N it) h1).symm⟩
section
variable {w : World} {F : Nat → Prop} {p : Nat} {N N' : List Nd} {most i e : Int}
theorem var_ok (n k : Int) (hd : DagO w F p N most) (h : varN most N n k = (N', i, e)) :
    Ret Try.prog 18 #[ptr p, vi n, vi k] w (fun r w' => ∃ F', r = .tuple #[vi i, vi e] ∧ DagO w' F' p N' most ∧ (∀ b, b < w.heap.size → F' b → F b) ∧ Keep w w' F) :=
  (var_ret hd n k).mono (fun r w' ⟨F', h1, h2, h3, h4⟩ => by
    rw [h] at h1 h2
    exact ⟨F', h1, h2, h3, h4⟩)
theorem const_ok (n : Int) (x : W64) (hd : DagO w F p N most) (h : constN most N n x = (N', i, e)) :
    Ret Try.prog 19 #[ptr p, vi n, vw x] w (fun r w' => ∃ F', r = .tuple #[vi i, vi e] ∧ DagO w' F' p N' most ∧ (∀ b, b < w.heap.size → F' b → F b) ∧ Keep w w' F) :=
  (const_ret hd n x).mono (fun r w' ⟨F', h1, h2, h3, h4⟩ => by
    rw [h] at h1 h2
    exact ⟨F', h1, h2, h3, h4⟩)
theorem binary_ok (o a b : Int) (hd : DagO w F p N most) (h : binaryN most N o a b = (N', i, e)) :
    Ret Try.prog 20 #[ptr p, vi o, vi a, vi b] w (fun r w' => ∃ F', r = .tuple #[vi i, vi e] ∧ DagO w' F' p N' most ∧ (∀ b, b < w.heap.size → F' b → F b) ∧ Keep w w' F) :=
  (binary_ret hd o a b).mono (fun r w' ⟨F', h1, h2, h3, h4⟩ => by
    rw [h] at h1 h2
    exact ⟨F', h1, h2, h3, h4⟩)
theorem concat_ok (a b : Int) (hd : DagO w F p N most) (h : concatN most N a b = (N', i, e)) :
    Ret Try.prog 21 #[ptr p, vi a, vi b] w (fun r w' => ∃ F', r = .tuple #[vi i, vi e] ∧ DagO w' F' p N' most ∧ (∀ b, b < w.heap.size → F' b → F b) ∧ Keep w w' F) :=
  (concat_ret hd a b).mono (fun r w' ⟨F', h1, h2, h3, h4⟩ => by
    rw [h] at h1 h2
    exact ⟨F', h1, h2, h3, h4⟩)
theorem value_ok {De : Nat → Prop} {ev : Value} {env : List W64} {x : W64} (hd : DagO w F p N most) (he : LV vw w De ev env) (hel : env.length ≤ 1000000) (it : Int) (hx : valW N env it = x) (hi : (if isN N it then (0 : Int) else 11) = e) :
    Ret Try.prog 8 #[ptr p, vi it, ev] w (fun r w' => r = .tuple #[vw x, vi e] ∧ Keep w w' No) := by
  subst hx hi
  exact value_ret hd he hel it
end
theorem lvw_of_blk {w : World} {b n : Nat} {xs : List W64} (h : Blk w b (xs.map vw)) (hn : n = xs.length) {D : Nat → Prop} (hD : D b) : LV vw w D (.slice (some ⟨b, 0, none⟩) n n) xs := by
  subst hn
  exact ⟨_, _, rfl, Row.of_blk' h hD, Nat.le_refl _⟩
theorem lvi_of_blk {w : World} {b n : Nat} {xs : List Int} (h : Blk w b (xs.map vi)) (hn : n = xs.length) {D : Nat → Prop} (hD : D b) : LV vi w D (.slice (some ⟨b, 0, none⟩) n n) xs := by
  subst hn
  exact ⟨_, _, rfl, Row.of_blk' h hD, Nat.le_refl _⟩
abbrev bN1 : List Nd := [⟨21, 8, 1, 0, 0, 0⟩]
abbrev bN2 : List Nd := bN1 ++ [⟨20, 8, 0, 0, 0, 1⟩]
abbrev bN3 : List Nd := bN2 ++ [⟨1, 8, 0, 1, 0, 0⟩]
abbrev bN4 : List Nd := bN3 ++ [⟨24, 16, 2, 0, 0, 0⟩]
set_option maxHeartbeats 2000000 in
theorem awake16_ret (w : World) : Ret Try.prog 5 #[] w (fun v w' => v = .bool true ∧ Keep w w' No) := by
  have c1 : varN 9 [] 8 1 = (bN1, 0, 0) := by kernel_rfl
  have c2 : constN 9 bN1 8 1 = (bN2, 1, 0) := by kernel_rfl
  have c3 : binaryN 9 bN2 1 0 1 = (bN3, 2, 0) := by kernel_rfl
  have c4 : concatN 9 bN3 2 0 = (bN4, 3, 0) := by kernel_rfl
  have v1 : valW bN4 [0, 255] 2 = 0 := by kernel_rfl
  have v2 : valW bN4 [0, 1] 3 = 513 := by kernel_rfl
  have v3 : valW bN4 [] 0 = 0 := by kernel_rfl
  have v4 : valW bN4 [] 9 = 0 := by kernel_rfl
  refine ok5 _ _ ?_
  unfold sh5
  refine M.call_i (new_ret 9 w) ?_; rintro _ w1 ⟨F, p, rfl, hd1, hF, k1⟩
  rw [if_neg (by omega)] at hd1
  (repeat (first|refine ja ?_|refine jb ?_|refine jc ?_|refine jd ?_|refine je ?_|refine jf ?_|refine jg ?_|refine jh ?_|refine ji ?_|refine jj ?_|refine jk ?_|refine jl ?_|refine jm ?_|refine jn ?_|refine jo ?_|refine jp ?_|refine jq ?_|refine jr ?_|refine js ?_|refine jt ?_|refine ju ?_|refine jv ?_|refine jw ?_|refine jx ?_|refine jy ?_|refine jz ?_|refine jA ?_|refine jB ?_|refine jC ?_|refine jD ?_|refine jE ?_|refine jF ?_|refine jG ?_|refine jH ?_|refine jI ?_|refine jJ ?_|refine jK ?_|refine jL ?_|refine jM (by assumption) ?_|refine jN (by assumption) rfl ?_|refine jO (by assumption) ?_|refine jP (by assumption) rfl ?_|refine jQ ?_|refine jR ?_|refine jS ?_|refine jT ?_|refine jU (by assumption) rfl ?_))
  refine M.call_i (var_ok 8 1 hd1 c1) ?_; rintro _ w2 ⟨F2, rfl, hd2, hF2, k2⟩
  refine M.extract_i rfl ?_
  refine M.extract_i rfl ?_
  refine M.call_i (const_ok 8 1 hd2 c2) ?_; rintro _ w3 ⟨F3, rfl, hd3, hF3, k3⟩
  refine M.extract_i rfl ?_
  refine M.extract_i rfl ?_
  refine M.call_i (binary_ok 1 0 1 hd3 c3) ?_; rintro _ w4 ⟨F4, rfl, hd4, hF4, k4⟩
  refine M.extract_i rfl ?_
  refine M.extract_i rfl ?_
  refine M.call_i (concat_ok 2 0 hd4 c4) ?_; rintro _ w5 ⟨F5, rfl, hd5, hF5, k5⟩
  refine M.extract_i rfl ?_
  refine M.extract_i rfl ?_
  have g1 := k1.size; have g2 := k2.size; have g3 := k3.size; have g4 := k4.size
  have n2 : ∀ b, b < w.heap.size → ¬ F2 b := fun b hb h => by have := hF b (hF2 b (by omega) h); omega
  have n3 : ∀ b, b < w.heap.size → ¬ F3 b := fun b hb h => n2 b hb (hF3 b (by omega) h)
  have n4 : ∀ b, b < w.heap.size → ¬ F4 b := fun b hb h => n3 b hb (hF4 b (by omega) h)
  have k05 : Keep w w5 No := (((k1.trans k2 (fun b hb h => by have := hF b h; omega)).trans k3 (fun b hb h => n2 b hb h)).trans k4 (fun b hb h => n3 b hb h)).trans k5 (fun b hb h => n4 b hb h)
  refine M.buildSlice_i (([0, 255] : List W64).map vw) (by kernel_rfl) (fun w6 b6 k6 s6 => ?_)
  refine M.call_i (value_ok (hd5.keepN k6) (lvw_of_blk (D := fun _ => True) b6 rfl trivial) (by decide) 2 v1 rfl) ?_; rintro _ w7 ⟨rfl, k7⟩
  refine M.extract_i rfl ?_
  refine M.extract_i rfl ?_
  have k57 := k6.trans k7 (fun _ _ h => h)
  refine M.buildSlice_i (([0, 1] : List W64).map vw) (by kernel_rfl) (fun w8 b8 k8 s8 => ?_)
  have k58 := k57.trans k8 (fun _ _ h => h)
  refine M.call_i (value_ok (hd5.keepN k58) (lvw_of_blk (D := fun _ => True) b8 rfl trivial) (by decide) 3 v2 rfl) ?_; rintro _ w9 ⟨rfl, k9⟩
  refine M.extract_i rfl ?_
  refine M.extract_i rfl ?_
  have k59 := k58.trans k9 (fun _ _ h => h)
  refine M.call_i (value_ok (hd5.keepN k59) (LV.nil vw w9 No) (by decide) 0 v3 rfl) ?_; rintro _ w10 ⟨rfl, k10⟩
  refine M.extract_i rfl ?_
  refine M.extract_i rfl ?_
  have k510 := k59.trans k10 (fun _ _ h => h)
  refine M.call_i (value_ok (hd5.keepN k510) (LV.nil vw w10 No) (by decide) 9 v4 rfl) ?_; rintro _ w11 ⟨rfl, k11⟩
  refine M.extract_i rfl ?_
  refine M.extract_i rfl ?_
  have k511 := k510.trans k11 (fun _ _ h => h)
  have hd11 := hd5.keepN k511
  have hG := hd5.good
  (repeat (first|refine ja ?_|refine jb ?_|refine jc ?_|refine jd ?_|refine je ?_|refine jf ?_|refine jg ?_|refine jh ?_|refine ji ?_|refine jj ?_|refine jk ?_|refine jl ?_|refine jm ?_|refine jn ?_|refine jo ?_|refine jp ?_|refine jq ?_|refine jr ?_|refine js ?_|refine jt ?_|refine ju ?_|refine jv ?_|refine jw ?_|refine jx ?_|refine jy ?_|refine jz ?_|refine jA ?_|refine jB ?_|refine jC ?_|refine jD ?_|refine jE ?_|refine jF ?_|refine jG ?_|refine jH ?_|refine jI ?_|refine jJ ?_|refine jK ?_|refine jL ?_|refine jM (by assumption) ?_|refine jN (by assumption) rfl ?_|refine jO (by assumption) ?_|refine jP (by assumption) rfl ?_|refine jQ ?_|refine jR ?_|refine jS ?_|refine jT ?_|refine jU (by assumption) rfl ?_|refine jG ?_ (by decide)|refine jH ?_ (by decide)|refine jI ?_ (by decide)|refine jJ ?_ (by decide)|refine jC ?_ (by decide)|refine jy ?_ (by decide)))
  have hc := belN_calc (it := 3) hG rfl (l := [3, 2, 1, 0]) (by kernel_rfl)
  have hv : varsN bN4 3 = [1] := by rw [← varsN_of hc.1]; kernel_rfl
  refine M.call_i (vars_ret hd11 3) ?_; rintro _ w12 ⟨g12, k12⟩
  rw [hv] at g12
  (repeat (first|refine ja ?_|refine jb ?_|refine jc ?_|refine jd ?_|refine je ?_|refine jf ?_|refine jg ?_|refine jh ?_|refine ji ?_|refine jj ?_|refine jk ?_|refine jl ?_|refine jm ?_|refine jn ?_|refine jo ?_|refine jp ?_|refine jq ?_|refine jr ?_|refine js ?_|refine jt ?_|refine ju ?_|refine jv ?_|refine jw ?_|refine jx ?_|refine jy ?_|refine jz ?_|refine jA ?_|refine jB ?_|refine jC ?_|refine jD ?_|refine jE ?_|refine jF ?_|refine jG ?_|refine jH ?_|refine jI ?_|refine jJ ?_|refine jK ?_|refine jL ?_|refine jM (by assumption) ?_|refine jN (by assumption) rfl ?_|refine jO (by assumption) ?_|refine jP (by assumption) rfl ?_|refine jQ ?_|refine jR ?_|refine jS ?_|refine jT ?_|refine jU (by assumption) rfl ?_|refine jG ?_ (by decide)|refine jH ?_ (by decide)|refine jI ?_ (by decide)|refine jJ ?_ (by decide)|refine jC ?_ (by decide)|refine jy ?_ (by decide)))
  refine M.buildSlice_i (([1] : List Int).map vi) (by kernel_rfl) (fun w13 b13 k13 s13 => ?_)
  (repeat (first|refine ja ?_|refine jb ?_|refine jc ?_|refine jd ?_|refine je ?_|refine jf ?_|refine jg ?_|refine jh ?_|refine ji ?_|refine jj ?_|refine jk ?_|refine jl ?_|refine jm ?_|refine jn ?_|refine jo ?_|refine jp ?_|refine jq ?_|refine jr ?_|refine js ?_|refine jt ?_|refine ju ?_|refine jv ?_|refine jw ?_|refine jx ?_|refine jy ?_|refine jz ?_|refine jA ?_|refine jB ?_|refine jC ?_|refine jD ?_|refine jE ?_|refine jF ?_|refine jG ?_|refine jH ?_|refine jI ?_|refine jJ ?_|refine jK ?_|refine jL ?_|refine jM (by assumption) ?_|refine jN (by assumption) rfl ?_|refine jO (by assumption) ?_|refine jP (by assumption) rfl ?_|refine jQ ?_|refine jR ?_|refine jS ?_|refine jT ?_|refine jU (by assumption) rfl ?_|refine jG ?_ (by decide)|refine jH ?_ (by decide)|refine jI ?_ (by decide)|refine jJ ?_ (by decide)|refine jC ?_ (by decide)|refine jy ?_ (by decide)))
  have k513 := (k511.trans k12 (fun _ _ h => h)).trans k13 (fun _ _ h => h)
  refine M.call_i (same_ret (GI.lv (g12.keep k13 (fun _ _ _ h => h))) (lvi_of_blk (D := fun _ => True) b13 rfl trivial) (by decide)) ?_; rintro _ w14 ⟨rfl, k14⟩
  have k514 := k513.trans k14 (fun _ _ h => h)
  have ht : decide (([1] : List Int) = [1]) = true := by decide
  rw [ht]
  (repeat (first|refine ja ?_|refine jb ?_|refine jc ?_|refine jd ?_|refine je ?_|refine jf ?_|refine jg ?_|refine jh ?_|refine ji ?_|refine jj ?_|refine jk ?_|refine jl ?_|refine jm ?_|refine jn ?_|refine jo ?_|refine jp ?_|refine jq ?_|refine jr ?_|refine js ?_|refine jt ?_|refine ju ?_|refine jv ?_|refine jw ?_|refine jx ?_|refine jy ?_|refine jz ?_|refine jA ?_|refine jB ?_|refine jC ?_|refine jD ?_|refine jE ?_|refine jF ?_|refine jG ?_|refine jH ?_|refine jI ?_|refine jJ ?_|refine jK ?_|refine jL ?_|refine jM (by assumption) ?_|refine jN (by assumption) rfl ?_|refine jO (by assumption) ?_|refine jP (by assumption) rfl ?_|refine jQ ?_|refine jR ?_|refine jS ?_|refine jT ?_|refine jU (by assumption) rfl ?_|refine jG ?_ (by decide)|refine jH ?_ (by decide)|refine jI ?_ (by decide)|refine jJ ?_ (by decide)|refine jC ?_ (by decide)|refine jy ?_ (by decide)))
  refine M.call_i (size_ret (hd5.keepN k514) 3) ?_; rintro _ w15 ⟨rfl, k15⟩
  have k515 := k514.trans k15 (fun _ _ h => h)
  rw [hc.2]
  (repeat (first|refine ja ?_|refine jb ?_|refine jc ?_|refine jd ?_|refine je ?_|refine jf ?_|refine jg ?_|refine jh ?_|refine ji ?_|refine jj ?_|refine jk ?_|refine jl ?_|refine jm ?_|refine jn ?_|refine jo ?_|refine jp ?_|refine jq ?_|refine jr ?_|refine js ?_|refine jt ?_|refine ju ?_|refine jv ?_|refine jw ?_|refine jx ?_|refine jy ?_|refine jz ?_|refine jA ?_|refine jB ?_|refine jC ?_|refine jD ?_|refine jE ?_|refine jF ?_|refine jG ?_|refine jH ?_|refine jI ?_|refine jJ ?_|refine jK ?_|refine jL ?_|refine jM (by assumption) ?_|refine jN (by assumption) rfl ?_|refine jO (by assumption) ?_|refine jP (by assumption) rfl ?_|refine jQ ?_|refine jR ?_|refine jS ?_|refine jT ?_|refine jU (by assumption) rfl ?_|refine jG ?_ (by decide)|refine jH ?_ (by decide)|refine jI ?_ (by decide)|refine jJ ?_ (by decide)|refine jC ?_ (by decide)|refine jy ?_ (by decide)))
  refine M.call_i (size_ret (hd5.keepN k515) (-1)) ?_; rintro _ w16 ⟨rfl, k16⟩
  have hm1 : belN bN4 (-1) = [] := by
    rw [List.eq_nil_iff_forall_not_mem]
    intro x hx
    have := ((mem_belN hG).1 hx).1
    exact absurd this (by decide)
  rw [hm1]
  (repeat (first|refine ja ?_|refine jb ?_|refine jc ?_|refine jd ?_|refine je ?_|refine jf ?_|refine jg ?_|refine jh ?_|refine ji ?_|refine jj ?_|refine jk ?_|refine jl ?_|refine jm ?_|refine jn ?_|refine jo ?_|refine jp ?_|refine jq ?_|refine jr ?_|refine js ?_|refine jt ?_|refine ju ?_|refine jv ?_|refine jw ?_|refine jx ?_|refine jy ?_|refine jz ?_|refine jA ?_|refine jB ?_|refine jC ?_|refine jD ?_|refine jE ?_|refine jF ?_|refine jG ?_|refine jH ?_|refine jI ?_|refine jJ ?_|refine jK ?_|refine jL ?_|refine jM (by assumption) ?_|refine jN (by assumption) rfl ?_|refine jO (by assumption) ?_|refine jP (by assumption) rfl ?_|refine jQ ?_|refine jR ?_|refine jS ?_|refine jT ?_|refine jU (by assumption) rfl ?_|refine jG ?_ (by decide)|refine jH ?_ (by decide)|refine jI ?_ (by decide)|refine jJ ?_ (by decide)|refine jC ?_ (by decide)|refine jy ?_ (by decide)))
  exact ⟨rfl, k05.trans (k515.trans k16 (fun _ _ h => h)) (fun _ _ h => h)⟩
end Go.Proofs.Yteahomhjoilahaa
