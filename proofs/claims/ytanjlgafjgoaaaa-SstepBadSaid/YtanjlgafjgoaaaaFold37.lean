import Derived.Test.YtanjlgafjgoaaaaFold37d
import Derived.Test.YtanjlgafjgoaaaaDagE
namespace Go.Proofs.Ytanjlgafjgoaaaa
open Go.Mw
set_option linter.unusedVariables false
set_option linter.unusedSimpArgs false
set_option maxRecDepth 100000
attribute [local irreducible] M.val M.unit M.next M.pick M.new M.nilCheck M.load1 M.loadA M.store M.fieldAddr M.indexSl M.indexArr M.slice M.makeSlice M.buildSlice M.len M.lenS M.cap M.append M.extract M.conv M.not M.neg M.bin M.shift M.eqB M.eqNil M.scat M.call M.callv M.gd M.share M.cond M.loop M.draw pureW readW Ret
/-! breakwater/fold.Known: function 46 -/
def sh46 (x0 x1 : Value) (R : Kt) (w : World) : Prop :=
  M.call Try.prog 42 #[x0, x1] (fun t11 w =>
  M.extract 0 t11 (fun t12 w =>
  M.extract 1 t11 (fun t13 w =>
  M.new 61 #[.int .i64 0, .int .i64 0, .int .i64 0, .int .i64 0, .int .i64 0, .int .u64 0] (fun t6 w =>
  M.store 6 t6 t12 (fun _ w =>
  M.not t13 (fun t15 w =>
  M.gd t15 false (fun k w => M.fieldAddr 0 t6 k w) (fun t17 w =>
  M.gd t15 false (fun k w => M.load1 t17 k w) (fun t18 w =>
  M.gd t15 false (fun k w => M.bin .neq t18 (Value.int IntKind.i64 20) k w) (fun t19 w =>
  M.pick t15 (Value.bool true) t19 (fun t20 w =>
  M.cond t20
  (R (.tuple #[(Value.int IntKind.u64 0), (Value.bool false)]) w)
  (M.fieldAddr 5 t6 (fun t21 w =>
  M.load1 t21 (fun t22 w =>
  R (.tuple #[t22, (Value.bool true)]) w) w) w)) w) w) w) w) w) w) w) w) w) w
theorem ok46 (x0 x1 : Value) (R : Kt) (w : World) (h : sh46 x0 x1 R w) : Ret Try.prog 46 #[x0, x1] w R :=
  ret_mk <| calls_of_comp mixed (c := Try.f46.body.getD .skip) (args := [x0, x1]) (rs := [(ResultVar.tmp 4), (ResultVar.tmp 5)]) (Ann.seq Ann.text (Ann.seq Ann.text (Ann.seq (Ann.seq Ann.text (Ann.cond (Ann.seq Ann.text Ann.leaf) Ann.leaf)) (Ann.seq Ann.text Ann.leaf))))
    Try.func46 (by kernel_rfl) (by kernel_rfl)
    (Eq.mp (by kernel_rfl) h)
/-! breakwater/fold.is: function 81 -/
def sh81 (x0 x1 x2 : Value) (R : Kt) (w : World) : Prop :=
  M.call Try.prog 46 #[x0, x1] (fun t12 w =>
  M.extract 0 t12 (fun t13 w =>
  M.extract 1 t12 (fun t14 w =>
  M.gd t14 true (fun k w => k t13 w) (fun t17 w =>
  M.gd t14 true (fun k w => k x2 w) (fun t18 w =>
  M.gd t14 true (fun k w => M.bin .eql t17 t18 k w) (fun t19 w =>
  M.pick t14 t19 (Value.bool false) (fun t20 w =>
  R t20 w) w) w) w) w) w) w) w
theorem ok81 (x0 x1 x2 : Value) (R : Kt) (w : World) (h : sh81 x0 x1 x2 R w) : Ret Try.prog 81 #[x0, x1, x2] w R :=
  ret_mk <| calls_of_comp mixed (c := Try.f81.body.getD .skip) (args := [x0, x1, x2]) (rs := [(ResultVar.tmp 6)]) (Ann.seq Ann.text (Ann.seq Ann.text (Ann.seq Ann.text Ann.leaf)))
    Try.func81 (by kernel_rfl) (by kernel_rfl)
    (Eq.mp (by kernel_rfl) h)
/-! breakwater/fold.right: function 70 -/
def sh70 (x0 x1 x2 : Value) (R : Kt) (w : World) : Prop :=
  M.share (fun K1 w =>
  M.bin .eql x1 (Value.int IntKind.i64 1) (fun t9 w =>
  M.cond t9
  (K1 [t9] w)
  (M.bin .eql x1 (Value.int IntKind.i64 2) (fun t10 w =>
  M.cond t10
  (K1 [t10] w)
  (M.bin .eql x1 (Value.int IntKind.i64 7) (fun t11 w =>
  M.cond t11
  (K1 [t11] w)
  (M.bin .eql x1 (Value.int IntKind.i64 8) (fun t12 w =>
  M.cond t12
  (K1 [t12] w)
  (M.bin .eql x1 (Value.int IntKind.i64 9) (fun t13 w =>
  M.cond t13
  (K1 [t13] w)
  (M.bin .eql x1 (Value.int IntKind.i64 10) (fun t14 w =>
  M.cond t14
  (K1 [t14] w)
  (M.bin .eql x1 (Value.int IntKind.i64 11) (fun t15 w =>
  K1 [t15] w) w)) w)) w)) w)) w)) w)) w) (fun s1 w => ∀ _ : List Value,
  M.cond (s1.getD 0 undef)
  (M.call Try.prog 81 #[x0, x2, (Value.int IntKind.u64 0)] (fun t18 w =>
  R t18 w) w)
  (M.share (fun K2 w =>
  M.bin .eql x1 (Value.int IntKind.i64 3) (fun t20 w =>
  M.cond t20
  (K2 [t20] w)
  (M.bin .eql x1 (Value.int IntKind.i64 4) (fun t21 w =>
  K2 [t21] w) w)) w) (fun s2 w => ∀ _ : List Value,
  M.cond (s2.getD 0 undef)
  (M.call Try.prog 81 #[x0, x2, (Value.int IntKind.u64 1)] (fun t24 w =>
  R t24 w) w)
  (M.bin .eql x1 (Value.int IntKind.i64 6) (fun t26 w =>
  M.cond t26
  (M.call Try.prog 23 #[x0, x2] (fun t31 w =>
  M.call Try.prog 12 #[t31] (fun t32 w =>
  M.call Try.prog 81 #[x0, x2, t32] (fun t33 w =>
  R t33 w) w) w) w)
  (R (Value.bool false) w)) w)) w)) w
theorem ok70 (x0 x1 x2 : Value) (R : Kt) (w : World) (h : sh70 x0 x1 x2 R w) : Ret Try.prog 70 #[x0, x1, x2] w R :=
  ret_mk <| calls_of_comp mixed (c := Try.f70.body.getD .skip) (args := [x0, x1, x2]) (rs := [(ResultVar.tmp 6)]) (Ann.seq Ann.text (Ann.seq (Ann.seq Ann.text (Ann.block (Ann.join [8] [9, 10, 11, 12, 13, 14, 15] (Ann.seq Ann.text (Ann.cond Ann.leaf (Ann.seq Ann.text (Ann.cond Ann.leaf (Ann.seq Ann.text (Ann.cond Ann.leaf (Ann.seq Ann.text (Ann.cond Ann.leaf (Ann.seq Ann.text (Ann.cond Ann.leaf (Ann.seq Ann.text (Ann.cond Ann.leaf Ann.text)))))))))))) (Ann.cond (Ann.seq Ann.text Ann.leaf) (Ann.join [19] [20, 21] (Ann.seq Ann.text (Ann.cond Ann.leaf Ann.text)) (Ann.cond (Ann.seq Ann.text Ann.leaf) (Ann.seq Ann.text (Ann.cond (Ann.seq Ann.text Ann.leaf) Ann.leaf)))))))) (Ann.seq Ann.text Ann.leaf)))
    Try.func70 (by kernel_rfl) (by kernel_rfl)
    (Eq.mp (by kernel_rfl) h)
/-! breakwater/fold.twins: function 71 -/
def sh71 (x0 : Value) (R : Kt) (w : World) : Prop :=
  M.share (fun K1 w =>
  M.bin .eql x0 (Value.int IntKind.i64 1) (fun t5 w =>
  M.cond t5
  (K1 [t5] w)
  (M.bin .eql x0 (Value.int IntKind.i64 3) (fun t6 w =>
  M.cond t6
  (K1 [t6] w)
  (M.bin .eql x0 (Value.int IntKind.i64 6) (fun t7 w =>
  M.cond t7
  (K1 [t7] w)
  (M.bin .eql x0 (Value.int IntKind.i64 7) (fun t8 w =>
  M.cond t8
  (K1 [t8] w)
  (M.bin .eql x0 (Value.int IntKind.i64 8) (fun t9 w =>
  M.cond t9
  (K1 [t9] w)
  (M.bin .eql x0 (Value.int IntKind.i64 12) (fun t10 w =>
  K1 [t10] w) w)) w)) w)) w)) w)) w) (fun s1 w => ∀ _ : List Value,
  M.cond (s1.getD 0 undef)
  (R (Value.bool true) w)
  (R (Value.bool false) w)) w
theorem ok71 (x0 : Value) (R : Kt) (w : World) (h : sh71 x0 R w) : Ret Try.prog 71 #[x0] w R :=
  ret_mk <| calls_of_comp mixed (c := Try.f71.body.getD .skip) (args := [x0]) (rs := [(ResultVar.tmp 2)]) (Ann.seq Ann.text (Ann.seq (Ann.seq Ann.text (Ann.block (Ann.join [4] [5, 6, 7, 8, 9, 10] (Ann.seq Ann.text (Ann.cond Ann.leaf (Ann.seq Ann.text (Ann.cond Ann.leaf (Ann.seq Ann.text (Ann.cond Ann.leaf (Ann.seq Ann.text (Ann.cond Ann.leaf (Ann.seq Ann.text (Ann.cond Ann.leaf Ann.text)))))))))) (Ann.cond (Ann.seq Ann.text Ann.leaf) Ann.leaf)))) (Ann.seq Ann.text Ann.leaf)))
    Try.func71 (by kernel_rfl) (by kernel_rfl)
    (Eq.mp (by kernel_rfl) h)
/-! breakwater/fold.nought: function 72 -/
def sh72 (x0 x1 x2 x3 : Value) (R : Kt) (w : World) : Prop :=
  M.share (fun K1 w =>
  M.share (fun K2 w =>
  M.share (fun K3 w =>
  M.bin .eql x1 (Value.int IntKind.i64 8) (fun t11 w =>
  M.cond t11
  (K3 [t11] w)
  (M.bin .eql x1 (Value.int IntKind.i64 2) (fun t12 w =>
  M.cond t12
  (K3 [t12] w)
  (M.bin .eql x1 (Value.int IntKind.i64 13) (fun t13 w =>
  M.cond t13
  (K3 [t13] w)
  (M.bin .eql x1 (Value.int IntKind.i64 14) (fun t14 w =>
  K3 [t14] w) w)) w)) w)) w) (fun s3 w => ∀ _ : List Value,
  M.cond (s3.getD 0 undef)
  (M.bin .eql x2 x3 (fun t30 w =>
  M.cond t30
  (R (Value.bool true) w)
  (K2 [] w)) w)
  (M.share (fun K4 w =>
  M.bin .eql x1 (Value.int IntKind.i64 1) (fun t16 w =>
  M.cond t16
  (K4 [t16] w)
  (M.bin .eql x1 (Value.int IntKind.i64 7) (fun t17 w =>
  M.cond t17
  (K4 [t17] w)
  (M.bin .eql x1 (Value.int IntKind.i64 12) (fun t18 w =>
  M.cond t18
  (K4 [t18] w)
  (M.bin .eql x1 (Value.int IntKind.i64 4) (fun t19 w =>
  M.cond t19
  (K4 [t19] w)
  (M.bin .eql x1 (Value.int IntKind.i64 5) (fun t20 w =>
  M.cond t20
  (K4 [t20] w)
  (M.bin .eql x1 (Value.int IntKind.i64 11) (fun t21 w =>
  K4 [t21] w) w)) w)) w)) w)) w)) w) (fun s4 w => ∀ _ : List Value,
  M.cond (s4.getD 0 undef)
  (K2 [] w)
  (M.share (fun K5 w =>
  M.bin .eql x1 (Value.int IntKind.i64 3) (fun t23 w =>
  M.cond t23
  (K5 [t23] w)
  (M.bin .eql x1 (Value.int IntKind.i64 6) (fun t24 w =>
  K5 [t24] w) w)) w) (fun s5 w => ∀ _ : List Value,
  M.cond (s5.getD 0 undef)
  (M.call Try.prog 81 #[x0, x2, (Value.int IntKind.u64 0)] (fun t40 w =>
  M.gd t40 false (fun k w => k x0 w) (fun t42 w =>
  M.gd t40 false (fun k w => k x3 w) (fun t43 w =>
  M.gd t40 false (fun k w => M.call Try.prog 81 #[t42, t43, (Value.int IntKind.u64 0)] k w) (fun t44 w =>
  M.pick t40 (Value.bool true) t44 (fun t45 w =>
  R t45 w) w) w) w) w) w)
  (M.share (fun K6 w =>
  M.bin .eql x1 (Value.int IntKind.i64 9) (fun t26 w =>
  M.cond t26
  (K6 [t26] w)
  (M.bin .eql x1 (Value.int IntKind.i64 10) (fun t27 w =>
  K6 [t27] w) w)) w) (fun s6 w => ∀ _ : List Value,
  M.cond (s6.getD 0 undef)
  (M.call Try.prog 81 #[x0, x2, (Value.int IntKind.u64 0)] (fun t48 w =>
  R t48 w) w)
  (K1 [] w)) w)) w)) w)) w) (fun s2 w => ∀ _ : List Value,
  M.bin .eql x1 (Value.int IntKind.i64 13) (fun t32 w =>
  M.gd t32 true (fun k w => k x0 w) (fun t34 w =>
  M.gd t32 true (fun k w => k x3 w) (fun t35 w =>
  M.gd t32 true (fun k w => M.call Try.prog 81 #[t34, t35, (Value.int IntKind.u64 0)] k w) (fun t36 w =>
  M.pick t32 t36 (Value.bool false) (fun t37 w =>
  R t37 w) w) w) w) w) w) w) (fun s1 w => ∀ _ : List Value,
  R (Value.bool false) w) w
theorem ok72 (x0 x1 x2 x3 : Value) (R : Kt) (w : World) (h : sh72 x0 x1 x2 x3 R w) : Ret Try.prog 72 #[x0, x1, x2, x3] w R :=
  ret_mk <| calls_of_comp mixed (c := Try.f72.body.getD .skip) (args := [x0, x1, x2, x3]) (rs := [(ResultVar.tmp 8)]) (Ann.seq Ann.text (Ann.seq (Ann.seq Ann.text (Ann.jblock [] [8, 10, 11, 12, 13, 14, 15, 16, 17, 18, 19, 20, 21, 22, 23, 24, 25, 26, 27, 28, 29, 30, 31, 32, 33, 34, 35, 36, 37, 38, 39, 40, 41, 42, 43, 44, 45, 46, 47, 48] (Ann.seq (Ann.block (Ann.seq (Ann.block (Ann.seq (Ann.jblock [] [8, 10, 11, 12, 13, 14, 15, 16, 17, 18, 19, 20, 21, 22, 23, 24, 25, 26, 27, 28, 29, 30] (Ann.seq (Ann.block (Ann.seq (Ann.seq (Ann.join [10] [11, 12, 13, 14] (Ann.seq Ann.text (Ann.cond Ann.leaf (Ann.seq Ann.text (Ann.cond Ann.leaf (Ann.seq Ann.text (Ann.cond Ann.leaf Ann.text)))))) (Ann.cond Ann.leaf Ann.leaf)) (Ann.seq (Ann.join [15] [16, 17, 18, 19, 20, 21] (Ann.seq Ann.text (Ann.cond Ann.leaf (Ann.seq Ann.text (Ann.cond Ann.leaf (Ann.seq Ann.text (Ann.cond Ann.leaf (Ann.seq Ann.text (Ann.cond Ann.leaf (Ann.seq Ann.text (Ann.cond Ann.leaf Ann.text)))))))))) (Ann.cond Ann.leaf Ann.leaf)) (Ann.seq (Ann.join [22] [23, 24] (Ann.seq Ann.text (Ann.cond Ann.leaf Ann.text)) (Ann.cond Ann.leaf Ann.leaf)) (Ann.join [25] [26, 27] (Ann.seq Ann.text (Ann.cond Ann.leaf Ann.text)) (Ann.cond Ann.leaf Ann.leaf))))) Ann.leaf)) (Ann.seq Ann.text (Ann.cond (Ann.seq Ann.text Ann.leaf) Ann.leaf)))) (Ann.seq (Ann.seq Ann.text Ann.leaf) Ann.leaf))) (Ann.seq (Ann.seq Ann.text Ann.leaf) Ann.leaf))) (Ann.seq (Ann.seq Ann.text Ann.leaf) Ann.leaf)))) (Ann.seq Ann.text Ann.leaf)))
    Try.func72 (by kernel_rfl) (by kernel_rfl)
    (Eq.mp (by kernel_rfl) h)
/-! breakwater/fold.Unary: function 30 -/
def sh30 (x0 x1 x2 : Value) (R : Kt) (w : World) : Prop :=
  M.call Try.prog 42 #[x0, x2] (fun t17 w =>
  M.extract 0 t17 (fun t18 w =>
  M.extract 1 t17 (fun t19 w =>
  M.new 61 #[.int .i64 0, .int .i64 0, .int .i64 0, .int .i64 0, .int .i64 0, .int .u64 0] (fun t8 w =>
  M.store 6 t8 t18 (fun _ w =>
  M.not t19 (fun t21 w =>
  M.gd t21 false (fun k w => k x1 w) (fun t23 w =>
  M.gd t21 false (fun k w => M.bin .neq t23 (Value.int IntKind.i64 15) k w) (fun t24 w =>
  M.gd t21 false (fun k w => k t24 w) (fun t25 w =>
  M.gd t25 true (fun k w => k x1 w) (fun t26 w =>
  M.gd t25 true (fun k w => M.bin .neq t26 (Value.int IntKind.i64 16) k w) (fun t27 w =>
  M.gd t21 false (fun k w => M.pick t25 t27 (Value.bool false) k w) (fun t28 w =>
  M.pick t21 (Value.bool true) t28 (fun t29 w =>
  M.cond t29
  (M.call Try.prog 51 #[x0, x1, x2] (fun t33 w =>
  M.extract 0 t33 (fun t34 w =>
  M.extract 1 t33 (fun t35 w =>
  R (.tuple #[t34, t35]) w) w) w) w)
  (M.call Try.prog 46 #[x0, x2] (fun t39 w =>
  M.extract 0 t39 (fun t40 w =>
  M.extract 1 t39 (fun t41 w =>
  M.cond t41
  (M.fieldAddr 1 t8 (fun t45 w =>
  M.load1 t45 (fun t46 w =>
  M.call Try.prog 52 #[x1, t46, t40] (fun t48 w =>
  M.extract 0 t48 (fun t49 w =>
  M.extract 1 t48 (fun t50 w =>
  M.fieldAddr 1 t8 (fun t52 w =>
  M.load1 t52 (fun t53 w =>
  M.call Try.prog 7 #[x0, t53, t49] (fun t55 w =>
  M.extract 0 t55 (fun t56 w =>
  M.extract 1 t55 (fun t57 w =>
  R (.tuple #[t56, t57]) w) w) w) w) w) w) w) w) w) w) w)
  (M.fieldAddr 0 t8 (fun t58 w =>
  M.load1 t58 (fun t59 w =>
  M.bin .eql t59 x1 (fun t61 w =>
  M.cond t61
  (M.fieldAddr 2 t8 (fun t62 w =>
  M.load1 t62 (fun t63 w =>
  R (.tuple #[t63, (Value.int IntKind.i64 0)]) w) w) w)
  (M.call Try.prog 51 #[x0, x1, x2] (fun t67 w =>
  M.extract 0 t67 (fun t68 w =>
  M.extract 1 t67 (fun t69 w =>
  R (.tuple #[t68, t69]) w) w) w) w)) w) w) w)) w) w) w)) w) w) w) w) w) w) w) w) w) w) w) w) w
theorem ok30 (x0 x1 x2 : Value) (R : Kt) (w : World) (h : sh30 x0 x1 x2 R w) : Ret Try.prog 30 #[x0, x1, x2] w R :=
  ret_mk <| calls_of_comp mixed (c := Try.f30.body.getD .skip) (args := [x0, x1, x2]) (rs := [(ResultVar.tmp 6), (ResultVar.tmp 7)]) (Ann.seq Ann.text (Ann.seq Ann.text (Ann.seq (Ann.seq Ann.text (Ann.cond (Ann.seq Ann.text Ann.leaf) Ann.leaf)) (Ann.seq (Ann.seq Ann.text (Ann.seq Ann.text (Ann.cond (Ann.seq Ann.text (Ann.seq Ann.text Ann.leaf)) Ann.leaf))) (Ann.seq (Ann.seq Ann.text (Ann.cond (Ann.seq Ann.text Ann.leaf) Ann.leaf)) (Ann.seq Ann.text Ann.leaf))))))
    Try.func30 (by kernel_rfl) (by kernel_rfl)
    (Eq.mp (by kernel_rfl) h)
/-! breakwater/fold.Binary: function 49 -/
def sh49 (x0 x1 x2 x3 : Value) (R : Kt) (w : World) : Prop :=
  M.call Try.prog 42 #[x0, x2] (fun t24 w =>
  M.extract 0 t24 (fun t25 w =>
  M.extract 1 t24 (fun t26 w =>
  M.new 61 #[.int .i64 0, .int .i64 0, .int .i64 0, .int .i64 0, .int .i64 0, .int .u64 0] (fun t10 w =>
  M.store 6 t10 t25 (fun _ w =>
  M.call Try.prog 42 #[x0, x3] (fun t30 w =>
  M.extract 0 t30 (fun t31 w =>
  M.extract 1 t30 (fun t32 w =>
  M.new 61 #[.int .i64 0, .int .i64 0, .int .i64 0, .int .i64 0, .int .i64 0, .int .u64 0] (fun t12 w =>
  M.store 6 t12 t31 (fun _ w =>
  M.not t26 (fun t34 w =>
  M.gd t34 false (fun k w => k t32 w) (fun t36 w =>
  M.gd t34 false (fun k w => M.not t36 k w) (fun t37 w =>
  M.pick t34 (Value.bool true) t37 (fun t38 w =>
  M.gd t38 false (fun k w => M.fieldAddr 1 t10 k w) (fun t40 w =>
  M.gd t38 false (fun k w => M.load1 t40 k w) (fun t41 w =>
  M.gd t38 false (fun k w => M.fieldAddr 1 t12 k w) (fun t42 w =>
  M.gd t38 false (fun k w => M.load1 t42 k w) (fun t43 w =>
  M.gd t38 false (fun k w => M.bin .neq t41 t43 k w) (fun t44 w =>
  M.pick t38 (Value.bool true) t44 (fun t45 w =>
  M.gd t45 false (fun k w => k x1 w) (fun t47 w =>
  M.gd t45 false (fun k w => M.bin .lss t47 (Value.int IntKind.i64 1) k w) (fun t48 w =>
  M.pick t45 (Value.bool true) t48 (fun t49 w =>
  M.gd t49 false (fun k w => k x1 w) (fun t51 w =>
  M.gd t49 false (fun k w => M.bin .gtr t51 (Value.int IntKind.i64 14) k w) (fun t52 w =>
  M.pick t49 (Value.bool true) t52 (fun t53 w =>
  M.cond t53
  (M.call Try.prog 68 #[x0, x1, x2, x3] (fun t58 w =>
  M.extract 0 t58 (fun t59 w =>
  M.extract 1 t58 (fun t60 w =>
  R (.tuple #[t59, t60]) w) w) w) w)
  (M.fieldAddr 1 t10 (fun t61 w =>
  M.load1 t61 (fun t62 w =>
  M.share (fun K1 w =>
  M.bin .geq x1 (Value.int IntKind.i64 12) (fun t64 w =>
  M.cond t64
  (K1 [(Value.int IntKind.i64 1)] w)
  (K1 [t62] w)) w) (fun s1 w => ∀ _ : List Value,
  M.call Try.prog 46 #[x0, x2] (fun t68 w =>
  M.extract 0 t68 (fun t69 w =>
  M.extract 1 t68 (fun t70 w =>
  M.call Try.prog 46 #[x0, x3] (fun t74 w =>
  M.extract 0 t74 (fun t75 w =>
  M.extract 1 t74 (fun t76 w =>
  M.gd t70 true (fun k w => k t76 w) (fun t80 w =>
  M.pick t70 t80 (Value.bool false) (fun t81 w =>
  M.cond t81
  (M.fieldAddr 1 t10 (fun t84 w =>
  M.load1 t84 (fun t85 w =>
  M.call Try.prog 69 #[x1, t85, t69, t75] (fun t88 w =>
  M.extract 0 t88 (fun t89 w =>
  M.extract 1 t88 (fun t90 w =>
  M.call Try.prog 7 #[x0, (s1.getD 0 undef), t89] (fun t94 w =>
  M.extract 0 t94 (fun t95 w =>
  M.extract 1 t94 (fun t96 w =>
  R (.tuple #[t95, t96]) w) w) w) w) w) w) w) w) w)
  (M.call Try.prog 70 #[x0, x1, x3] (fun t101 w =>
  M.cond t101
  (R (.tuple #[x2, (Value.int IntKind.i64 0)]) w)
  (M.call Try.prog 71 #[x1] (fun t105 w =>
  M.gd t105 true (fun k w => k x0 w) (fun t107 w =>
  M.gd t105 true (fun k w => k x1 w) (fun t108 w =>
  M.gd t105 true (fun k w => k x2 w) (fun t109 w =>
  M.gd t105 true (fun k w => M.call Try.prog 70 #[t107, t108, t109] k w) (fun t110 w =>
  M.pick t105 t110 (Value.bool false) (fun t111 w =>
  M.cond t111
  (R (.tuple #[x3, (Value.int IntKind.i64 0)]) w)
  (M.call Try.prog 72 #[x0, x1, x2, x3] (fun t118 w =>
  M.cond t118
  (M.call Try.prog 7 #[x0, (s1.getD 0 undef), (Value.int IntKind.u64 0)] (fun t121 w =>
  M.extract 0 t121 (fun t122 w =>
  M.extract 1 t121 (fun t123 w =>
  R (.tuple #[t122, t123]) w) w) w) w)
  (M.bin .eql x1 (Value.int IntKind.i64 12) (fun t126 w =>
  M.gd t126 true (fun k w => k x2 w) (fun t128 w =>
  M.gd t126 true (fun k w => k x3 w) (fun t129 w =>
  M.gd t126 true (fun k w => M.bin .eql t128 t129 k w) (fun t130 w =>
  M.pick t126 t130 (Value.bool false) (fun t131 w =>
  M.cond t131
  (M.call Try.prog 7 #[x0, (Value.int IntKind.i64 1), (Value.int IntKind.u64 1)] (fun t133 w =>
  M.extract 0 t133 (fun t134 w =>
  M.extract 1 t133 (fun t135 w =>
  R (.tuple #[t134, t135]) w) w) w) w)
  (M.bin .eql x1 (Value.int IntKind.i64 6) (fun t138 w =>
  M.gd t138 false (fun k w => k x1 w) (fun t140 w =>
  M.gd t138 false (fun k w => M.bin .eql t140 (Value.int IntKind.i64 7) k w) (fun t141 w =>
  M.pick t138 (Value.bool true) t141 (fun t142 w =>
  M.gd t142 true (fun k w => k x2 w) (fun t144 w =>
  M.gd t142 true (fun k w => k x3 w) (fun t145 w =>
  M.gd t142 true (fun k w => M.bin .eql t144 t145 k w) (fun t146 w =>
  M.pick t142 t146 (Value.bool false) (fun t147 w =>
  M.cond t147
  (R (.tuple #[x2, (Value.int IntKind.i64 0)]) w)
  (M.call Try.prog 68 #[x0, x1, x2, x3] (fun t153 w =>
  M.extract 0 t153 (fun t154 w =>
  M.extract 1 t153 (fun t155 w =>
  R (.tuple #[t154, t155]) w) w) w) w)) w) w) w) w) w) w) w) w)) w) w) w) w) w)) w)) w) w) w) w) w) w)) w)) w) w) w) w) w) w) w) w) w) w) w)) w) w) w) w) w) w) w) w) w) w) w) w) w) w) w) w) w) w) w) w) w) w) w) w) w) w
theorem ok49 (x0 x1 x2 x3 : Value) (R : Kt) (w : World) (h : sh49 x0 x1 x2 x3 R w) : Ret Try.prog 49 #[x0, x1, x2, x3] w R :=
  ret_mk <| calls_of_comp mixed (c := Try.f49.body.getD .skip) (args := [x0, x1, x2, x3]) (rs := [(ResultVar.tmp 8), (ResultVar.tmp 9)]) (Ann.seq Ann.text (Ann.seq Ann.text (Ann.seq Ann.text (Ann.seq (Ann.seq Ann.text (Ann.cond (Ann.seq Ann.text Ann.leaf) Ann.leaf)) (Ann.seq Ann.text (Ann.join [14] [63, 64] (Ann.seq Ann.text (Ann.cond Ann.text Ann.leaf)) (Ann.seq Ann.text (Ann.seq Ann.text (Ann.seq (Ann.block (Ann.seq Ann.text (Ann.cond (Ann.seq Ann.text (Ann.seq Ann.text Ann.leaf)) (Ann.seq Ann.text (Ann.cond (Ann.seq Ann.text Ann.leaf) (Ann.seq Ann.text (Ann.cond (Ann.seq Ann.text Ann.leaf) (Ann.seq Ann.text (Ann.cond (Ann.seq Ann.text Ann.leaf) (Ann.seq Ann.text (Ann.cond (Ann.seq Ann.text Ann.leaf) (Ann.seq Ann.text (Ann.cond (Ann.seq Ann.text Ann.leaf) Ann.leaf))))))))))))) (Ann.seq Ann.text Ann.leaf))))))))))
    Try.func49 (by kernel_rfl) (by kernel_rfl)
    (Eq.mp (by kernel_rfl) h)
/-! breakwater/fold.Extend: function 50 -/
def sh50 (x0 x1 x2 x3 : Value) (R : Kt) (w : World) : Prop :=
  M.call Try.prog 42 #[x0, x1] (fun t17 w =>
  M.extract 0 t17 (fun t18 w =>
  M.extract 1 t17 (fun t19 w =>
  M.new 61 #[.int .i64 0, .int .i64 0, .int .i64 0, .int .i64 0, .int .i64 0, .int .u64 0] (fun t10 w =>
  M.store 6 t10 t18 (fun _ w =>
  M.not t19 (fun t21 w =>
  M.gd t21 false (fun k w => k x2 w) (fun t23 w =>
  M.gd t21 false (fun k w => M.fieldAddr 1 t10 k w) (fun t24 w =>
  M.gd t21 false (fun k w => M.load1 t24 k w) (fun t25 w =>
  M.gd t21 false (fun k w => M.bin .lss t23 t25 k w) (fun t26 w =>
  M.pick t21 (Value.bool true) t26 (fun t27 w =>
  M.gd t27 false (fun k w => k x2 w) (fun t29 w =>
  M.gd t27 false (fun k w => M.bin .gtr t29 (Value.int IntKind.i64 64) k w) (fun t30 w =>
  M.pick t27 (Value.bool true) t30 (fun t31 w =>
  M.cond t31
  (M.call Try.prog 73 #[x0, x1, x2, x3] (fun t36 w =>
  M.extract 0 t36 (fun t37 w =>
  M.extract 1 t36 (fun t38 w =>
  R (.tuple #[t37, t38]) w) w) w) w)
  (M.call Try.prog 46 #[x0, x1] (fun t42 w =>
  M.extract 0 t42 (fun t43 w =>
  M.extract 1 t42 (fun t44 w =>
  M.cond t44
  (M.share (fun K1 w =>
  M.cond x3
  (M.fieldAddr 1 t10 (fun t47 w =>
  M.load1 t47 (fun t48 w =>
  M.call Try.prog 74 #[t48, t43] (fun t50 w =>
  M.conv .u64 t50 (fun t51 w =>
  K1 [t51] w) w) w) w) w)
  (K1 [t43] w)) (fun s1 w => ∀ _ : List Value,
  M.call Try.prog 7 #[x0, x2, (s1.getD 0 undef)] (fun t55 w =>
  M.extract 0 t55 (fun t56 w =>
  M.extract 1 t55 (fun t57 w =>
  R (.tuple #[t56, t57]) w) w) w) w) w)
  (M.call Try.prog 73 #[x0, x1, x2, x3] (fun t62 w =>
  M.extract 0 t62 (fun t63 w =>
  M.extract 1 t62 (fun t64 w =>
  R (.tuple #[t63, t64]) w) w) w) w)) w) w) w)) w) w) w) w) w) w) w) w) w) w) w) w) w) w
theorem ok50 (x0 x1 x2 x3 : Value) (R : Kt) (w : World) (h : sh50 x0 x1 x2 x3 R w) : Ret Try.prog 50 #[x0, x1, x2, x3] w R :=
  ret_mk <| calls_of_comp mixed (c := Try.f50.body.getD .skip) (args := [x0, x1, x2, x3]) (rs := [(ResultVar.tmp 8), (ResultVar.tmp 9)]) (Ann.seq Ann.text (Ann.seq Ann.text (Ann.seq (Ann.seq Ann.text (Ann.cond (Ann.seq Ann.text Ann.leaf) Ann.leaf)) (Ann.seq (Ann.seq Ann.text (Ann.seq Ann.text (Ann.cond (Ann.join [12] [46, 47, 48, 49, 50, 51] (Ann.seq Ann.text (Ann.cond Ann.text Ann.leaf)) (Ann.seq Ann.text Ann.leaf)) Ann.leaf))) (Ann.seq Ann.text Ann.leaf)))))
    Try.func50 (by kernel_rfl) (by kernel_rfl)
    (Eq.mp (by kernel_rfl) h)

section
variable {w : World} {F : Nat → Prop} {p : Nat} {N : List Nd} {most : Int}
theorem keepT1 {w w1 w2 : World} {c : Nat} (q : Keep w w1 No) (k : Keep w1 w2 (· = c)) (h : w.heap.size ≤ c) : Keep w w2 No := q.trans k (fun j hj e => by have e : j = c := e; omega)
theorem known_ret (hd : DagO w F p N most) (i : Int) :
    Ret Try.prog 46 #[ptr p, vi i] w (fun r w' => r = .tuple #[vw ((knownN N i).getD 0), .bool (knownN N i).isSome] ∧ Keep w w' No) := by
  refine ok46 _ _ _ _ ?_
  unfold sh46
  refine M.call_i (hd.node i) ?_; rintro _ w1 ⟨rfl, k1⟩
  refine M.extract_i (v := encN (nodeAt N i)) rfl ?_
  refine M.extract_i (v := .bool (isN N i)) rfl ?_
  refine M.new_i (l := zeroNd.cells) (fun w2 b2 k2 s2 => ?_)
  refine M.storeAll_i b2 rfl rfl (cells_one _) (fun w3 b3 k3 s3 => ?_)
  have k := keepT1 (k1.trans k2 (fun _ _ h => h)) k3 k1.size
  have b3 : Blk w3 w1.heap.size [vi (nodeAt N i).op, vi (nodeAt N i).wd, vi (nodeAt N i).a, vi (nodeAt N i).b, vi (nodeAt N i).c, vw (nodeAt N i).val] := b3
  unfold knownN
  cases hi : isN N i with
  | false =>
    (repeat (first|refine ja ?_|refine jb ?_|refine jc ?_|refine jd ?_|refine je ?_|refine jf ?_|refine jg ?_|refine jh ?_|refine ji ?_|refine jj ?_|refine jk ?_|refine jl ?_|refine jm ?_|refine jn ?_|refine jo ?_|refine jp ?_|refine jq ?_|refine jr ?_|refine js ?_|refine jt ?_|refine ju ?_|refine jv ?_|refine jw ?_|refine jx ?_|refine jy ?_|refine jz ?_|refine jA ?_|refine jB ?_|refine jC ?_|refine jD ?_|refine jE ?_|refine jF ?_|refine jG ?_|refine jH ?_|refine jI ?_|refine jJ ?_|refine jK ?_|refine jL ?_|refine jM (by assumption) ?_|refine jN (by assumption) rfl ?_|refine jO (by assumption) ?_|refine jP (by assumption) rfl ?_|refine jQ ?_|refine jR ?_|refine jS ?_|refine jT ?_|refine jU (by assumption) rfl ?_))
    exact ⟨rfl, k⟩
  | true =>
    by_cases h20 : (nodeAt N i).op = 20
    · rw [if_pos rfl, if_pos h20]
      (repeat (first|refine ja ?_|refine jb ?_|refine jc ?_|refine jd ?_|refine je ?_|refine jf ?_|refine jg ?_|refine jh ?_|refine ji ?_|refine jj ?_|refine jk ?_|refine jl ?_|refine jm ?_|refine jn ?_|refine jo ?_|refine jp ?_|refine jq ?_|refine jr ?_|refine js ?_|refine jt ?_|refine ju ?_|refine jv ?_|refine jw ?_|refine jx ?_|refine jy ?_|refine jz ?_|refine jA ?_|refine jB ?_|refine jC ?_|refine jD ?_|refine jE ?_|refine jF ?_|refine jG ?_|refine jH ?_|refine jI ?_|refine jJ ?_|refine jK ?_|refine jL ?_|refine jM (by assumption) ?_|refine jN (by assumption) rfl ?_|refine jO (by assumption) ?_|refine jP (by assumption) rfl ?_|refine jQ ?_|refine jR ?_|refine jS ?_|refine jT ?_|refine jU (by assumption) rfl ?_))
      exact ⟨rfl, k⟩
    · rw [if_pos rfl, if_neg h20]
      (repeat (first|refine ja ?_|refine jb ?_|refine jc ?_|refine jd ?_|refine je ?_|refine jf ?_|refine jg ?_|refine jh ?_|refine ji ?_|refine jj ?_|refine jk ?_|refine jl ?_|refine jm ?_|refine jn ?_|refine jo ?_|refine jp ?_|refine jq ?_|refine jr ?_|refine js ?_|refine jt ?_|refine ju ?_|refine jv ?_|refine jw ?_|refine jx ?_|refine jy ?_|refine jz ?_|refine jA ?_|refine jB ?_|refine jC ?_|refine jD ?_|refine jE ?_|refine jF ?_|refine jG ?_|refine jH ?_|refine jI ?_|refine jJ ?_|refine jK ?_|refine jL ?_|refine jM (by assumption) ?_|refine jN (by assumption) rfl ?_|refine jO (by assumption) ?_|refine jP (by assumption) rfl ?_|refine jQ ?_|refine jR ?_|refine jS ?_|refine jT ?_|refine jU (by assumption) rfl ?_))
      exact ⟨rfl, k⟩
theorem is_ret (hd : DagO w F p N most) (i : Int) (x : W64) :
    Ret Try.prog 81 #[ptr p, vi i, vw x] w (fun r w' => r = .bool (isK N i x) ∧ Keep w w' No) := by
  refine ok81 _ _ _ _ _ ?_
  unfold sh81
  refine M.call_i (known_ret hd i) ?_; rintro _ w1 ⟨rfl, k1⟩
  refine M.extract_i (v := vw ((knownN N i).getD 0)) rfl ?_
  refine M.extract_i (v := .bool (knownN N i).isSome) rfl ?_
  unfold isK
  cases knownN N i with
  | none => (repeat (first|refine ja ?_|refine jb ?_|refine jc ?_|refine jd ?_|refine je ?_|refine jf ?_|refine jg ?_|refine jh ?_|refine ji ?_|refine jj ?_|refine jk ?_|refine jl ?_|refine jm ?_|refine jn ?_|refine jo ?_|refine jp ?_|refine jq ?_|refine jr ?_|refine js ?_|refine jt ?_|refine ju ?_|refine jv ?_|refine jw ?_|refine jx ?_|refine jy ?_|refine jz ?_|refine jA ?_|refine jB ?_|refine jC ?_|refine jD ?_|refine jE ?_|refine jF ?_|refine jG ?_|refine jH ?_|refine jI ?_|refine jJ ?_|refine jK ?_|refine jL ?_|refine jM (by assumption) ?_|refine jN (by assumption) rfl ?_|refine jO (by assumption) ?_|refine jP (by assumption) rfl ?_|refine jQ ?_|refine jR ?_|refine jS ?_|refine jT ?_|refine jU (by assumption) rfl ?_)); exact ⟨rfl, k1⟩
  | some v =>
    (repeat (first|refine ja ?_|refine jb ?_|refine jc ?_|refine jd ?_|refine je ?_|refine jf ?_|refine jg ?_|refine jh ?_|refine ji ?_|refine jj ?_|refine jk ?_|refine jl ?_|refine jm ?_|refine jn ?_|refine jo ?_|refine jp ?_|refine jq ?_|refine jr ?_|refine js ?_|refine jt ?_|refine ju ?_|refine jv ?_|refine jw ?_|refine jx ?_|refine jy ?_|refine jz ?_|refine jA ?_|refine jB ?_|refine jC ?_|refine jD ?_|refine jE ?_|refine jF ?_|refine jG ?_|refine jH ?_|refine jI ?_|refine jJ ?_|refine jK ?_|refine jL ?_|refine jM (by assumption) ?_|refine jN (by assumption) rfl ?_|refine jO (by assumption) ?_|refine jP (by assumption) rfl ?_|refine jQ ?_|refine jR ?_|refine jS ?_|refine jT ?_|refine jU (by assumption) rfl ?_))
    refine M.eqlW_i ?_
    (repeat (first|refine ja ?_|refine jb ?_|refine jc ?_|refine jd ?_|refine je ?_|refine jf ?_|refine jg ?_|refine jh ?_|refine ji ?_|refine jj ?_|refine jk ?_|refine jl ?_|refine jm ?_|refine jn ?_|refine jo ?_|refine jp ?_|refine jq ?_|refine jr ?_|refine js ?_|refine jt ?_|refine ju ?_|refine jv ?_|refine jw ?_|refine jx ?_|refine jy ?_|refine jz ?_|refine jA ?_|refine jB ?_|refine jC ?_|refine jD ?_|refine jE ?_|refine jF ?_|refine jG ?_|refine jH ?_|refine jI ?_|refine jJ ?_|refine jK ?_|refine jL ?_|refine jM (by assumption) ?_|refine jN (by assumption) rfl ?_|refine jO (by assumption) ?_|refine jP (by assumption) rfl ?_|refine jQ ?_|refine jR ?_|refine jS ?_|refine jT ?_|refine jU (by assumption) rfl ?_))
    exact ⟨rfl, k1⟩
theorem right_ret (hd : DagO w F p N most) (op b : Int) :
    Ret Try.prog 70 #[ptr p, vi op, vi b] w (fun r w' => r = .bool (rightN N op b) ∧ Keep w w' No) := by
  refine ok70 _ _ _ _ _ ?_
  unfold sh70
  unfold rightN
  by_cases g1 : op = 1 ∨ op = 2 ∨ op = 7 ∨ op = 8 ∨ op = 9 ∨ op = 10 ∨ op = 11
  · rw [if_pos g1]
    refine M.share_j (fun vals w' => vals = [.bool true] ∧ w = w') ?_ ?_
    · rintro vals w' ⟨rfl, rfl⟩ _
      simp only [List.getD_cons_zero, List.getD_cons_succ]
      (repeat (first|refine ja ?_|refine jb ?_|refine jc ?_|refine jd ?_|refine je ?_|refine jf ?_|refine jg ?_|refine jh ?_|refine ji ?_|refine jj ?_|refine jk ?_|refine jl ?_|refine jm ?_|refine jn ?_|refine jo ?_|refine jp ?_|refine jq ?_|refine jr ?_|refine js ?_|refine jt ?_|refine ju ?_|refine jv ?_|refine jw ?_|refine jx ?_|refine jy ?_|refine jz ?_|refine jA ?_|refine jB ?_|refine jC ?_|refine jD ?_|refine jE ?_|refine jF ?_|refine jG ?_|refine jH ?_|refine jI ?_|refine jJ ?_|refine jK ?_|refine jL ?_|refine jM (by assumption) ?_|refine jN (by assumption) rfl ?_|refine jO (by assumption) ?_|refine jP (by assumption) rfl ?_|refine jQ ?_|refine jR ?_|refine jS ?_|refine jT ?_|refine jU (by assumption) rfl ?_))
      refine M.call_i (is_ret hd b 0) ?_; rintro _ w1 ⟨rfl, k1⟩
      exact ⟨rfl, k1⟩
    · intro K hK
      have hK := hK _ _ ⟨rfl, rfl⟩
      rcases g1 with e | e | e | e | e | e | e
      all_goals
        (repeat (first|refine ja ?_|refine jb ?_|refine jc ?_|refine jd ?_|refine je ?_|refine jf ?_|refine jg ?_|refine jh ?_|refine ji ?_|refine jj ?_|refine jk ?_|refine jl ?_|refine jm ?_|refine jn ?_|refine jo ?_|refine jp ?_|refine jq ?_|refine jr ?_|refine js ?_|refine jt ?_|refine ju ?_|refine jv ?_|refine jw ?_|refine jx ?_|refine jy ?_|refine jz ?_|refine jA ?_|refine jB ?_|refine jC ?_|refine jD ?_|refine jE ?_|refine jF ?_|refine jG ?_|refine jH ?_|refine jI ?_|refine jJ ?_|refine jK ?_|refine jL ?_|refine jM (by assumption) ?_|refine jN (by assumption) rfl ?_|refine jO (by assumption) ?_|refine jP (by assumption) rfl ?_|refine jQ ?_|refine jR ?_|refine jS ?_|refine jT ?_|refine jU (by assumption) rfl ?_))
        exact hK
  · rw [if_neg g1]
    refine M.share_j (fun vals w' => vals = [.bool false] ∧ w = w') ?_ ?_
    · rintro vals w' ⟨rfl, rfl⟩ _
      simp only [List.getD_cons_zero, List.getD_cons_succ]
      (repeat (first|refine ja ?_|refine jb ?_|refine jc ?_|refine jd ?_|refine je ?_|refine jf ?_|refine jg ?_|refine jh ?_|refine ji ?_|refine jj ?_|refine jk ?_|refine jl ?_|refine jm ?_|refine jn ?_|refine jo ?_|refine jp ?_|refine jq ?_|refine jr ?_|refine js ?_|refine jt ?_|refine ju ?_|refine jv ?_|refine jw ?_|refine jx ?_|refine jy ?_|refine jz ?_|refine jA ?_|refine jB ?_|refine jC ?_|refine jD ?_|refine jE ?_|refine jF ?_|refine jG ?_|refine jH ?_|refine jI ?_|refine jJ ?_|refine jK ?_|refine jL ?_|refine jM (by assumption) ?_|refine jN (by assumption) rfl ?_|refine jO (by assumption) ?_|refine jP (by assumption) rfl ?_|refine jQ ?_|refine jR ?_|refine jS ?_|refine jT ?_|refine jU (by assumption) rfl ?_))
      by_cases g2 : op = 3 ∨ op = 4
      · rw [if_pos g2]
        refine M.share_j (fun vals w' => vals = [.bool true] ∧ w = w') ?_ ?_
        · rintro vals w' ⟨rfl, rfl⟩ _
          simp only [List.getD_cons_zero, List.getD_cons_succ]
          (repeat (first|refine ja ?_|refine jb ?_|refine jc ?_|refine jd ?_|refine je ?_|refine jf ?_|refine jg ?_|refine jh ?_|refine ji ?_|refine jj ?_|refine jk ?_|refine jl ?_|refine jm ?_|refine jn ?_|refine jo ?_|refine jp ?_|refine jq ?_|refine jr ?_|refine js ?_|refine jt ?_|refine ju ?_|refine jv ?_|refine jw ?_|refine jx ?_|refine jy ?_|refine jz ?_|refine jA ?_|refine jB ?_|refine jC ?_|refine jD ?_|refine jE ?_|refine jF ?_|refine jG ?_|refine jH ?_|refine jI ?_|refine jJ ?_|refine jK ?_|refine jL ?_|refine jM (by assumption) ?_|refine jN (by assumption) rfl ?_|refine jO (by assumption) ?_|refine jP (by assumption) rfl ?_|refine jQ ?_|refine jR ?_|refine jS ?_|refine jT ?_|refine jU (by assumption) rfl ?_))
          refine M.call_i (is_ret hd b 1) ?_; rintro _ w1 ⟨rfl, k1⟩
          exact ⟨rfl, k1⟩
        · intro K hK
          have hK := hK _ _ ⟨rfl, rfl⟩
          rcases g2 with e | e
          all_goals
            (repeat (first|refine ja ?_|refine jb ?_|refine jc ?_|refine jd ?_|refine je ?_|refine jf ?_|refine jg ?_|refine jh ?_|refine ji ?_|refine jj ?_|refine jk ?_|refine jl ?_|refine jm ?_|refine jn ?_|refine jo ?_|refine jp ?_|refine jq ?_|refine jr ?_|refine js ?_|refine jt ?_|refine ju ?_|refine jv ?_|refine jw ?_|refine jx ?_|refine jy ?_|refine jz ?_|refine jA ?_|refine jB ?_|refine jC ?_|refine jD ?_|refine jE ?_|refine jF ?_|refine jG ?_|refine jH ?_|refine jI ?_|refine jJ ?_|refine jK ?_|refine jL ?_|refine jM (by assumption) ?_|refine jN (by assumption) rfl ?_|refine jO (by assumption) ?_|refine jP (by assumption) rfl ?_|refine jQ ?_|refine jR ?_|refine jS ?_|refine jT ?_|refine jU (by assumption) rfl ?_))
            exact hK
      · rw [if_neg g2]
        refine M.share_j (fun vals w' => vals = [.bool false] ∧ w = w') ?_ ?_
        · rintro vals w' ⟨rfl, rfl⟩ _
          simp only [List.getD_cons_zero, List.getD_cons_succ]
          (repeat (first|refine ja ?_|refine jb ?_|refine jc ?_|refine jd ?_|refine je ?_|refine jf ?_|refine jg ?_|refine jh ?_|refine ji ?_|refine jj ?_|refine jk ?_|refine jl ?_|refine jm ?_|refine jn ?_|refine jo ?_|refine jp ?_|refine jq ?_|refine jr ?_|refine js ?_|refine jt ?_|refine ju ?_|refine jv ?_|refine jw ?_|refine jx ?_|refine jy ?_|refine jz ?_|refine jA ?_|refine jB ?_|refine jC ?_|refine jD ?_|refine jE ?_|refine jF ?_|refine jG ?_|refine jH ?_|refine jI ?_|refine jJ ?_|refine jK ?_|refine jL ?_|refine jM (by assumption) ?_|refine jN (by assumption) rfl ?_|refine jO (by assumption) ?_|refine jP (by assumption) rfl ?_|refine jQ ?_|refine jR ?_|refine jS ?_|refine jT ?_|refine jU (by assumption) rfl ?_))
          by_cases g3 : op = 6
          · rw [if_pos g3]
            (repeat (first|refine ja ?_|refine jb ?_|refine jc ?_|refine jd ?_|refine je ?_|refine jf ?_|refine jg ?_|refine jh ?_|refine ji ?_|refine jj ?_|refine jk ?_|refine jl ?_|refine jm ?_|refine jn ?_|refine jo ?_|refine jp ?_|refine jq ?_|refine jr ?_|refine js ?_|refine jt ?_|refine ju ?_|refine jv ?_|refine jw ?_|refine jx ?_|refine jy ?_|refine jz ?_|refine jA ?_|refine jB ?_|refine jC ?_|refine jD ?_|refine jE ?_|refine jF ?_|refine jG ?_|refine jH ?_|refine jI ?_|refine jJ ?_|refine jK ?_|refine jL ?_|refine jM (by assumption) ?_|refine jN (by assumption) rfl ?_|refine jO (by assumption) ?_|refine jP (by assumption) rfl ?_|refine jQ ?_|refine jR ?_|refine jS ?_|refine jT ?_|refine jU (by assumption) rfl ?_))
            refine M.call_i (hd.width b) ?_; rintro _ w1 ⟨rfl, k1⟩
            refine M.call_i (mask_ret (wdN N b) w1) ?_; rintro _ w2 ⟨rfl, rfl⟩
            refine M.call_i (is_ret (hd.keepN k1) b (maskW (wdN N b))) ?_; rintro _ w3 ⟨rfl, k3⟩
            exact ⟨rfl, k1.trans k3 (fun _ _ h => h)⟩
          · rw [if_neg g3]
            (repeat (first|refine ja ?_|refine jb ?_|refine jc ?_|refine jd ?_|refine je ?_|refine jf ?_|refine jg ?_|refine jh ?_|refine ji ?_|refine jj ?_|refine jk ?_|refine jl ?_|refine jm ?_|refine jn ?_|refine jo ?_|refine jp ?_|refine jq ?_|refine jr ?_|refine js ?_|refine jt ?_|refine ju ?_|refine jv ?_|refine jw ?_|refine jx ?_|refine jy ?_|refine jz ?_|refine jA ?_|refine jB ?_|refine jC ?_|refine jD ?_|refine jE ?_|refine jF ?_|refine jG ?_|refine jH ?_|refine jI ?_|refine jJ ?_|refine jK ?_|refine jL ?_|refine jM (by assumption) ?_|refine jN (by assumption) rfl ?_|refine jO (by assumption) ?_|refine jP (by assumption) rfl ?_|refine jQ ?_|refine jR ?_|refine jS ?_|refine jT ?_|refine jU (by assumption) rfl ?_))
            exact ⟨rfl, Keep.refl _ _⟩
        · intro K hK
          have hK := hK _ _ ⟨rfl, rfl⟩
          (repeat (first|refine ja ?_|refine jb ?_|refine jc ?_|refine jd ?_|refine je ?_|refine jf ?_|refine jg ?_|refine jh ?_|refine ji ?_|refine jj ?_|refine jk ?_|refine jl ?_|refine jm ?_|refine jn ?_|refine jo ?_|refine jp ?_|refine jq ?_|refine jr ?_|refine js ?_|refine jt ?_|refine ju ?_|refine jv ?_|refine jw ?_|refine jx ?_|refine jy ?_|refine jz ?_|refine jA ?_|refine jB ?_|refine jC ?_|refine jD ?_|refine jE ?_|refine jF ?_|refine jG ?_|refine jH ?_|refine jI ?_|refine jJ ?_|refine jK ?_|refine jL ?_|refine jM (by assumption) ?_|refine jN (by assumption) rfl ?_|refine jO (by assumption) ?_|refine jP (by assumption) rfl ?_|refine jQ ?_|refine jR ?_|refine jS ?_|refine jT ?_|refine jU (by assumption) rfl ?_))
          exact hK
    · intro K hK
      have hK := hK _ _ ⟨rfl, rfl⟩
      (repeat (first|refine ja ?_|refine jb ?_|refine jc ?_|refine jd ?_|refine je ?_|refine jf ?_|refine jg ?_|refine jh ?_|refine ji ?_|refine jj ?_|refine jk ?_|refine jl ?_|refine jm ?_|refine jn ?_|refine jo ?_|refine jp ?_|refine jq ?_|refine jr ?_|refine js ?_|refine jt ?_|refine ju ?_|refine jv ?_|refine jw ?_|refine jx ?_|refine jy ?_|refine jz ?_|refine jA ?_|refine jB ?_|refine jC ?_|refine jD ?_|refine jE ?_|refine jF ?_|refine jG ?_|refine jH ?_|refine jI ?_|refine jJ ?_|refine jK ?_|refine jL ?_|refine jM (by assumption) ?_|refine jN (by assumption) rfl ?_|refine jO (by assumption) ?_|refine jP (by assumption) rfl ?_|refine jQ ?_|refine jR ?_|refine jS ?_|refine jT ?_|refine jU (by assumption) rfl ?_))
      exact hK
theorem twins_ret (op : Int) (w : World) : Ret Try.prog 71 #[vi op] w (fun r w' => r = .bool (twinsN op) ∧ w' = w) := by
  refine ok71 _ _ _ ?_
  unfold sh71
  unfold twinsN
  refine M.share_j (fun vals w' => vals = [.bool (decide (op = 1 ∨ op = 3 ∨ op = 6 ∨ op = 7 ∨ op = 8 ∨ op = 12))] ∧ w = w') ?_ ?_
  · rintro vals w' ⟨rfl, rfl⟩ _
    simp only [List.getD_cons_zero, List.getD_cons_succ]
    by_cases g : op = 1 ∨ op = 3 ∨ op = 6 ∨ op = 7 ∨ op = 8 ∨ op = 12
    · rw [decide_eq_true g]
      (repeat (first|refine ja ?_|refine jb ?_|refine jc ?_|refine jd ?_|refine je ?_|refine jf ?_|refine jg ?_|refine jh ?_|refine ji ?_|refine jj ?_|refine jk ?_|refine jl ?_|refine jm ?_|refine jn ?_|refine jo ?_|refine jp ?_|refine jq ?_|refine jr ?_|refine js ?_|refine jt ?_|refine ju ?_|refine jv ?_|refine jw ?_|refine jx ?_|refine jy ?_|refine jz ?_|refine jA ?_|refine jB ?_|refine jC ?_|refine jD ?_|refine jE ?_|refine jF ?_|refine jG ?_|refine jH ?_|refine jI ?_|refine jJ ?_|refine jK ?_|refine jL ?_|refine jM (by assumption) ?_|refine jN (by assumption) rfl ?_|refine jO (by assumption) ?_|refine jP (by assumption) rfl ?_|refine jQ ?_|refine jR ?_|refine jS ?_|refine jT ?_|refine jU (by assumption) rfl ?_))
      first | exact ⟨rfl, rfl⟩ | exact ⟨rfl, trivial⟩
    · rw [decide_eq_false g]
      (repeat (first|refine ja ?_|refine jb ?_|refine jc ?_|refine jd ?_|refine je ?_|refine jf ?_|refine jg ?_|refine jh ?_|refine ji ?_|refine jj ?_|refine jk ?_|refine jl ?_|refine jm ?_|refine jn ?_|refine jo ?_|refine jp ?_|refine jq ?_|refine jr ?_|refine js ?_|refine jt ?_|refine ju ?_|refine jv ?_|refine jw ?_|refine jx ?_|refine jy ?_|refine jz ?_|refine jA ?_|refine jB ?_|refine jC ?_|refine jD ?_|refine jE ?_|refine jF ?_|refine jG ?_|refine jH ?_|refine jI ?_|refine jJ ?_|refine jK ?_|refine jL ?_|refine jM (by assumption) ?_|refine jN (by assumption) rfl ?_|refine jO (by assumption) ?_|refine jP (by assumption) rfl ?_|refine jQ ?_|refine jR ?_|refine jS ?_|refine jT ?_|refine jU (by assumption) rfl ?_))
      first | exact ⟨rfl, rfl⟩ | exact ⟨rfl, trivial⟩
  · intro K hK
    have hK := hK _ _ ⟨rfl, rfl⟩
    by_cases g : op = 1 ∨ op = 3 ∨ op = 6 ∨ op = 7 ∨ op = 8 ∨ op = 12
    · rw [decide_eq_true g] at hK
      rcases g with e | e | e | e | e | e
      all_goals
        (repeat (first|refine ja ?_|refine jb ?_|refine jc ?_|refine jd ?_|refine je ?_|refine jf ?_|refine jg ?_|refine jh ?_|refine ji ?_|refine jj ?_|refine jk ?_|refine jl ?_|refine jm ?_|refine jn ?_|refine jo ?_|refine jp ?_|refine jq ?_|refine jr ?_|refine js ?_|refine jt ?_|refine ju ?_|refine jv ?_|refine jw ?_|refine jx ?_|refine jy ?_|refine jz ?_|refine jA ?_|refine jB ?_|refine jC ?_|refine jD ?_|refine jE ?_|refine jF ?_|refine jG ?_|refine jH ?_|refine jI ?_|refine jJ ?_|refine jK ?_|refine jL ?_|refine jM (by assumption) ?_|refine jN (by assumption) rfl ?_|refine jO (by assumption) ?_|refine jP (by assumption) rfl ?_|refine jQ ?_|refine jR ?_|refine jS ?_|refine jT ?_|refine jU (by assumption) rfl ?_))
        exact hK
    · rw [decide_eq_false g] at hK
      (repeat (first|refine ja ?_|refine jb ?_|refine jc ?_|refine jd ?_|refine je ?_|refine jf ?_|refine jg ?_|refine jh ?_|refine ji ?_|refine jj ?_|refine jk ?_|refine jl ?_|refine jm ?_|refine jn ?_|refine jo ?_|refine jp ?_|refine jq ?_|refine jr ?_|refine js ?_|refine jt ?_|refine ju ?_|refine jv ?_|refine jw ?_|refine jx ?_|refine jy ?_|refine jz ?_|refine jA ?_|refine jB ?_|refine jC ?_|refine jD ?_|refine jE ?_|refine jF ?_|refine jG ?_|refine jH ?_|refine jI ?_|refine jJ ?_|refine jK ?_|refine jL ?_|refine jM (by assumption) ?_|refine jN (by assumption) rfl ?_|refine jO (by assumption) ?_|refine jP (by assumption) rfl ?_|refine jQ ?_|refine jR ?_|refine jS ?_|refine jT ?_|refine jU (by assumption) rfl ?_))
      exact hK
theorem nought_ret (hd : DagO w F p N most) (op a b : Int) :
    Ret Try.prog 72 #[ptr p, vi op, vi a, vi b] w (fun r w' => r = .bool (noughtN N op a b) ∧ Keep w w' No) := by
  refine ok72 _ _ _ _ _ _ ?_
  unfold sh72
  refine M.share_j (fun vals w' => noughtN N op a b = false ∧ Keep w w' No) ?_ ?_
  · rintro vals w' ⟨hn, k⟩ _
    exact ⟨by rw [hn], k⟩
  intro K1 hK1
  have hK1 : noughtN N op a b = false → K1 [] w := fun h => hK1 _ _ ⟨h, Keep.refl _ _⟩
  refine M.share_j (fun vals w' => vals = [] ∧ w = w' ∧ noughtN N op a b = (decide (op = 13) && isK N b 0)) ?_ ?_
  · rintro vals w' ⟨rfl, rfl, hn⟩ _
    by_cases g : op = 13
    · (repeat (first|refine ja ?_|refine jb ?_|refine jc ?_|refine jd ?_|refine je ?_|refine jf ?_|refine jg ?_|refine jh ?_|refine ji ?_|refine jj ?_|refine jk ?_|refine jl ?_|refine jm ?_|refine jn ?_|refine jo ?_|refine jp ?_|refine jq ?_|refine jr ?_|refine js ?_|refine jt ?_|refine ju ?_|refine jv ?_|refine jw ?_|refine jx ?_|refine jy ?_|refine jz ?_|refine jA ?_|refine jB ?_|refine jC ?_|refine jD ?_|refine jE ?_|refine jF ?_|refine jG ?_|refine jH ?_|refine jI ?_|refine jJ ?_|refine jK ?_|refine jL ?_|refine jM (by assumption) ?_|refine jN (by assumption) rfl ?_|refine jO (by assumption) ?_|refine jP (by assumption) rfl ?_|refine jQ ?_|refine jR ?_|refine jS ?_|refine jT ?_|refine jU (by assumption) rfl ?_))
      refine M.call_i (is_ret hd b 0) ?_; rintro _ w1 ⟨rfl, k1⟩
      (repeat (first|refine ja ?_|refine jb ?_|refine jc ?_|refine jd ?_|refine je ?_|refine jf ?_|refine jg ?_|refine jh ?_|refine ji ?_|refine jj ?_|refine jk ?_|refine jl ?_|refine jm ?_|refine jn ?_|refine jo ?_|refine jp ?_|refine jq ?_|refine jr ?_|refine js ?_|refine jt ?_|refine ju ?_|refine jv ?_|refine jw ?_|refine jx ?_|refine jy ?_|refine jz ?_|refine jA ?_|refine jB ?_|refine jC ?_|refine jD ?_|refine jE ?_|refine jF ?_|refine jG ?_|refine jH ?_|refine jI ?_|refine jJ ?_|refine jK ?_|refine jL ?_|refine jM (by assumption) ?_|refine jN (by assumption) rfl ?_|refine jO (by assumption) ?_|refine jP (by assumption) rfl ?_|refine jQ ?_|refine jR ?_|refine jS ?_|refine jT ?_|refine jU (by assumption) rfl ?_))
      exact ⟨by rw [hn, decide_eq_true g]; rfl, k1⟩
    · (repeat (first|refine ja ?_|refine jb ?_|refine jc ?_|refine jd ?_|refine je ?_|refine jf ?_|refine jg ?_|refine jh ?_|refine ji ?_|refine jj ?_|refine jk ?_|refine jl ?_|refine jm ?_|refine jn ?_|refine jo ?_|refine jp ?_|refine jq ?_|refine jr ?_|refine js ?_|refine jt ?_|refine ju ?_|refine jv ?_|refine jw ?_|refine jx ?_|refine jy ?_|refine jz ?_|refine jA ?_|refine jB ?_|refine jC ?_|refine jD ?_|refine jE ?_|refine jF ?_|refine jG ?_|refine jH ?_|refine jI ?_|refine jJ ?_|refine jK ?_|refine jL ?_|refine jM (by assumption) ?_|refine jN (by assumption) rfl ?_|refine jO (by assumption) ?_|refine jP (by assumption) rfl ?_|refine jQ ?_|refine jR ?_|refine jS ?_|refine jT ?_|refine jU (by assumption) rfl ?_))
      exact ⟨by rw [hn, decide_eq_false g]; rfl, Keep.refl _ _⟩
  intro K2 hK2
  have hK2 : noughtN N op a b = (decide (op = 13) && isK N b 0) → K2 [] w := fun h => hK2 _ _ ⟨rfl, rfl, h⟩
  by_cases g1 : op = 8 ∨ op = 2 ∨ op = 13 ∨ op = 14
  · refine M.share_j (fun vals w' => vals = [.bool true] ∧ w = w') ?_ ?_
    · rintro vals w' ⟨rfl, rfl⟩ _
      simp only [List.getD_cons_zero, List.getD_cons_succ]
      by_cases hab : a = b
      · (repeat (first|refine ja ?_|refine jb ?_|refine jc ?_|refine jd ?_|refine je ?_|refine jf ?_|refine jg ?_|refine jh ?_|refine ji ?_|refine jj ?_|refine jk ?_|refine jl ?_|refine jm ?_|refine jn ?_|refine jo ?_|refine jp ?_|refine jq ?_|refine jr ?_|refine js ?_|refine jt ?_|refine ju ?_|refine jv ?_|refine jw ?_|refine jx ?_|refine jy ?_|refine jz ?_|refine jA ?_|refine jB ?_|refine jC ?_|refine jD ?_|refine jE ?_|refine jF ?_|refine jG ?_|refine jH ?_|refine jI ?_|refine jJ ?_|refine jK ?_|refine jL ?_|refine jM (by assumption) ?_|refine jN (by assumption) rfl ?_|refine jO (by assumption) ?_|refine jP (by assumption) rfl ?_|refine jQ ?_|refine jR ?_|refine jS ?_|refine jT ?_|refine jU (by assumption) rfl ?_))
        exact ⟨by unfold noughtN; rw [if_pos ⟨g1, hab⟩], Keep.refl _ _⟩
      · (repeat (first|refine ja ?_|refine jb ?_|refine jc ?_|refine jd ?_|refine je ?_|refine jf ?_|refine jg ?_|refine jh ?_|refine ji ?_|refine jj ?_|refine jk ?_|refine jl ?_|refine jm ?_|refine jn ?_|refine jo ?_|refine jp ?_|refine jq ?_|refine jr ?_|refine js ?_|refine jt ?_|refine ju ?_|refine jv ?_|refine jw ?_|refine jx ?_|refine jy ?_|refine jz ?_|refine jA ?_|refine jB ?_|refine jC ?_|refine jD ?_|refine jE ?_|refine jF ?_|refine jG ?_|refine jH ?_|refine jI ?_|refine jJ ?_|refine jK ?_|refine jL ?_|refine jM (by assumption) ?_|refine jN (by assumption) rfl ?_|refine jO (by assumption) ?_|refine jP (by assumption) rfl ?_|refine jQ ?_|refine jR ?_|refine jS ?_|refine jT ?_|refine jU (by assumption) rfl ?_))
        refine hK2 ?_
        unfold noughtN
        rw [if_neg (fun h => hab h.2), if_neg (by omega), if_neg (by omega)]
    · intro K hK
      have hK := hK _ _ ⟨rfl, rfl⟩
      rcases g1 with e | e | e | e
      all_goals
        (repeat (first|refine ja ?_|refine jb ?_|refine jc ?_|refine jd ?_|refine je ?_|refine jf ?_|refine jg ?_|refine jh ?_|refine ji ?_|refine jj ?_|refine jk ?_|refine jl ?_|refine jm ?_|refine jn ?_|refine jo ?_|refine jp ?_|refine jq ?_|refine jr ?_|refine js ?_|refine jt ?_|refine ju ?_|refine jv ?_|refine jw ?_|refine jx ?_|refine jy ?_|refine jz ?_|refine jA ?_|refine jB ?_|refine jC ?_|refine jD ?_|refine jE ?_|refine jF ?_|refine jG ?_|refine jH ?_|refine jI ?_|refine jJ ?_|refine jK ?_|refine jL ?_|refine jM (by assumption) ?_|refine jN (by assumption) rfl ?_|refine jO (by assumption) ?_|refine jP (by assumption) rfl ?_|refine jQ ?_|refine jR ?_|refine jS ?_|refine jT ?_|refine jU (by assumption) rfl ?_))
        exact hK
  · refine M.share_j (fun vals w' => vals = [.bool false] ∧ w = w') ?_ ?_
    · rintro vals w' ⟨rfl, rfl⟩ _
      simp only [List.getD_cons_zero, List.getD_cons_succ]
      (repeat (first|refine ja ?_|refine jb ?_|refine jc ?_|refine jd ?_|refine je ?_|refine jf ?_|refine jg ?_|refine jh ?_|refine ji ?_|refine jj ?_|refine jk ?_|refine jl ?_|refine jm ?_|refine jn ?_|refine jo ?_|refine jp ?_|refine jq ?_|refine jr ?_|refine js ?_|refine jt ?_|refine ju ?_|refine jv ?_|refine jw ?_|refine jx ?_|refine jy ?_|refine jz ?_|refine jA ?_|refine jB ?_|refine jC ?_|refine jD ?_|refine jE ?_|refine jF ?_|refine jG ?_|refine jH ?_|refine jI ?_|refine jJ ?_|refine jK ?_|refine jL ?_|refine jM (by assumption) ?_|refine jN (by assumption) rfl ?_|refine jO (by assumption) ?_|refine jP (by assumption) rfl ?_|refine jQ ?_|refine jR ?_|refine jS ?_|refine jT ?_|refine jU (by assumption) rfl ?_))
      by_cases g2 : op = 1 ∨ op = 7 ∨ op = 12 ∨ op = 4 ∨ op = 5 ∨ op = 11
      · refine M.share_j (fun vals w' => vals = [.bool true] ∧ w = w') ?_ ?_
        · rintro vals w' ⟨rfl, rfl⟩ _
          simp only [List.getD_cons_zero, List.getD_cons_succ]
          (repeat (first|refine ja ?_|refine jb ?_|refine jc ?_|refine jd ?_|refine je ?_|refine jf ?_|refine jg ?_|refine jh ?_|refine ji ?_|refine jj ?_|refine jk ?_|refine jl ?_|refine jm ?_|refine jn ?_|refine jo ?_|refine jp ?_|refine jq ?_|refine jr ?_|refine js ?_|refine jt ?_|refine ju ?_|refine jv ?_|refine jw ?_|refine jx ?_|refine jy ?_|refine jz ?_|refine jA ?_|refine jB ?_|refine jC ?_|refine jD ?_|refine jE ?_|refine jF ?_|refine jG ?_|refine jH ?_|refine jI ?_|refine jJ ?_|refine jK ?_|refine jL ?_|refine jM (by assumption) ?_|refine jN (by assumption) rfl ?_|refine jO (by assumption) ?_|refine jP (by assumption) rfl ?_|refine jQ ?_|refine jR ?_|refine jS ?_|refine jT ?_|refine jU (by assumption) rfl ?_))
          refine hK2 ?_
          unfold noughtN
          rw [if_neg (fun h => g1 h.1), if_neg (by omega), if_neg (by omega)]
        · intro K hK
          have hK := hK _ _ ⟨rfl, rfl⟩
          rcases g2 with e | e | e | e | e | e
          all_goals
            (repeat (first|refine ja ?_|refine jb ?_|refine jc ?_|refine jd ?_|refine je ?_|refine jf ?_|refine jg ?_|refine jh ?_|refine ji ?_|refine jj ?_|refine jk ?_|refine jl ?_|refine jm ?_|refine jn ?_|refine jo ?_|refine jp ?_|refine jq ?_|refine jr ?_|refine js ?_|refine jt ?_|refine ju ?_|refine jv ?_|refine jw ?_|refine jx ?_|refine jy ?_|refine jz ?_|refine jA ?_|refine jB ?_|refine jC ?_|refine jD ?_|refine jE ?_|refine jF ?_|refine jG ?_|refine jH ?_|refine jI ?_|refine jJ ?_|refine jK ?_|refine jL ?_|refine jM (by assumption) ?_|refine jN (by assumption) rfl ?_|refine jO (by assumption) ?_|refine jP (by assumption) rfl ?_|refine jQ ?_|refine jR ?_|refine jS ?_|refine jT ?_|refine jU (by assumption) rfl ?_))
            exact hK
      · refine M.share_j (fun vals w' => vals = [.bool false] ∧ w = w') ?_ ?_
        · rintro vals w' ⟨rfl, rfl⟩ _
          simp only [List.getD_cons_zero, List.getD_cons_succ]
          (repeat (first|refine ja ?_|refine jb ?_|refine jc ?_|refine jd ?_|refine je ?_|refine jf ?_|refine jg ?_|refine jh ?_|refine ji ?_|refine jj ?_|refine jk ?_|refine jl ?_|refine jm ?_|refine jn ?_|refine jo ?_|refine jp ?_|refine jq ?_|refine jr ?_|refine js ?_|refine jt ?_|refine ju ?_|refine jv ?_|refine jw ?_|refine jx ?_|refine jy ?_|refine jz ?_|refine jA ?_|refine jB ?_|refine jC ?_|refine jD ?_|refine jE ?_|refine jF ?_|refine jG ?_|refine jH ?_|refine jI ?_|refine jJ ?_|refine jK ?_|refine jL ?_|refine jM (by assumption) ?_|refine jN (by assumption) rfl ?_|refine jO (by assumption) ?_|refine jP (by assumption) rfl ?_|refine jQ ?_|refine jR ?_|refine jS ?_|refine jT ?_|refine jU (by assumption) rfl ?_))
          by_cases g3 : op = 3 ∨ op = 6
          · have hn : noughtN N op a b = (isK N a 0 || isK N b 0) := by
              unfold noughtN
              rw [if_neg (fun h => g1 h.1), if_pos g3]
            refine M.share_j (fun vals w' => vals = [.bool true] ∧ w = w') ?_ ?_
            · rintro vals w' ⟨rfl, rfl⟩ _
              simp only [List.getD_cons_zero, List.getD_cons_succ]
              (repeat (first|refine ja ?_|refine jb ?_|refine jc ?_|refine jd ?_|refine je ?_|refine jf ?_|refine jg ?_|refine jh ?_|refine ji ?_|refine jj ?_|refine jk ?_|refine jl ?_|refine jm ?_|refine jn ?_|refine jo ?_|refine jp ?_|refine jq ?_|refine jr ?_|refine js ?_|refine jt ?_|refine ju ?_|refine jv ?_|refine jw ?_|refine jx ?_|refine jy ?_|refine jz ?_|refine jA ?_|refine jB ?_|refine jC ?_|refine jD ?_|refine jE ?_|refine jF ?_|refine jG ?_|refine jH ?_|refine jI ?_|refine jJ ?_|refine jK ?_|refine jL ?_|refine jM (by assumption) ?_|refine jN (by assumption) rfl ?_|refine jO (by assumption) ?_|refine jP (by assumption) rfl ?_|refine jQ ?_|refine jR ?_|refine jS ?_|refine jT ?_|refine jU (by assumption) rfl ?_))
              refine M.call_i (is_ret hd a 0) ?_; rintro _ w1 ⟨rfl, k1⟩
              cases ha : isK N a 0 with
              | true =>
                (repeat (first|refine ja ?_|refine jb ?_|refine jc ?_|refine jd ?_|refine je ?_|refine jf ?_|refine jg ?_|refine jh ?_|refine ji ?_|refine jj ?_|refine jk ?_|refine jl ?_|refine jm ?_|refine jn ?_|refine jo ?_|refine jp ?_|refine jq ?_|refine jr ?_|refine js ?_|refine jt ?_|refine ju ?_|refine jv ?_|refine jw ?_|refine jx ?_|refine jy ?_|refine jz ?_|refine jA ?_|refine jB ?_|refine jC ?_|refine jD ?_|refine jE ?_|refine jF ?_|refine jG ?_|refine jH ?_|refine jI ?_|refine jJ ?_|refine jK ?_|refine jL ?_|refine jM (by assumption) ?_|refine jN (by assumption) rfl ?_|refine jO (by assumption) ?_|refine jP (by assumption) rfl ?_|refine jQ ?_|refine jR ?_|refine jS ?_|refine jT ?_|refine jU (by assumption) rfl ?_))
                exact ⟨by rw [hn, ha]; rfl, k1⟩
              | false =>
                (repeat (first|refine ja ?_|refine jb ?_|refine jc ?_|refine jd ?_|refine je ?_|refine jf ?_|refine jg ?_|refine jh ?_|refine ji ?_|refine jj ?_|refine jk ?_|refine jl ?_|refine jm ?_|refine jn ?_|refine jo ?_|refine jp ?_|refine jq ?_|refine jr ?_|refine js ?_|refine jt ?_|refine ju ?_|refine jv ?_|refine jw ?_|refine jx ?_|refine jy ?_|refine jz ?_|refine jA ?_|refine jB ?_|refine jC ?_|refine jD ?_|refine jE ?_|refine jF ?_|refine jG ?_|refine jH ?_|refine jI ?_|refine jJ ?_|refine jK ?_|refine jL ?_|refine jM (by assumption) ?_|refine jN (by assumption) rfl ?_|refine jO (by assumption) ?_|refine jP (by assumption) rfl ?_|refine jQ ?_|refine jR ?_|refine jS ?_|refine jT ?_|refine jU (by assumption) rfl ?_))
                refine M.call_i (is_ret (hd.keepN k1) b 0) ?_; rintro _ w2 ⟨rfl, k2⟩
                (repeat (first|refine ja ?_|refine jb ?_|refine jc ?_|refine jd ?_|refine je ?_|refine jf ?_|refine jg ?_|refine jh ?_|refine ji ?_|refine jj ?_|refine jk ?_|refine jl ?_|refine jm ?_|refine jn ?_|refine jo ?_|refine jp ?_|refine jq ?_|refine jr ?_|refine js ?_|refine jt ?_|refine ju ?_|refine jv ?_|refine jw ?_|refine jx ?_|refine jy ?_|refine jz ?_|refine jA ?_|refine jB ?_|refine jC ?_|refine jD ?_|refine jE ?_|refine jF ?_|refine jG ?_|refine jH ?_|refine jI ?_|refine jJ ?_|refine jK ?_|refine jL ?_|refine jM (by assumption) ?_|refine jN (by assumption) rfl ?_|refine jO (by assumption) ?_|refine jP (by assumption) rfl ?_|refine jQ ?_|refine jR ?_|refine jS ?_|refine jT ?_|refine jU (by assumption) rfl ?_))
                exact ⟨by rw [hn, ha]; rfl, k1.trans k2 (fun _ _ h => h)⟩
            · intro K hK
              have hK := hK _ _ ⟨rfl, rfl⟩
              rcases g3 with e | e
              all_goals
                (repeat (first|refine ja ?_|refine jb ?_|refine jc ?_|refine jd ?_|refine je ?_|refine jf ?_|refine jg ?_|refine jh ?_|refine ji ?_|refine jj ?_|refine jk ?_|refine jl ?_|refine jm ?_|refine jn ?_|refine jo ?_|refine jp ?_|refine jq ?_|refine jr ?_|refine js ?_|refine jt ?_|refine ju ?_|refine jv ?_|refine jw ?_|refine jx ?_|refine jy ?_|refine jz ?_|refine jA ?_|refine jB ?_|refine jC ?_|refine jD ?_|refine jE ?_|refine jF ?_|refine jG ?_|refine jH ?_|refine jI ?_|refine jJ ?_|refine jK ?_|refine jL ?_|refine jM (by assumption) ?_|refine jN (by assumption) rfl ?_|refine jO (by assumption) ?_|refine jP (by assumption) rfl ?_|refine jQ ?_|refine jR ?_|refine jS ?_|refine jT ?_|refine jU (by assumption) rfl ?_))
                exact hK
          · refine M.share_j (fun vals w' => vals = [.bool false] ∧ w = w') ?_ ?_
            · rintro vals w' ⟨rfl, rfl⟩ _
              simp only [List.getD_cons_zero, List.getD_cons_succ]
              (repeat (first|refine ja ?_|refine jb ?_|refine jc ?_|refine jd ?_|refine je ?_|refine jf ?_|refine jg ?_|refine jh ?_|refine ji ?_|refine jj ?_|refine jk ?_|refine jl ?_|refine jm ?_|refine jn ?_|refine jo ?_|refine jp ?_|refine jq ?_|refine jr ?_|refine js ?_|refine jt ?_|refine ju ?_|refine jv ?_|refine jw ?_|refine jx ?_|refine jy ?_|refine jz ?_|refine jA ?_|refine jB ?_|refine jC ?_|refine jD ?_|refine jE ?_|refine jF ?_|refine jG ?_|refine jH ?_|refine jI ?_|refine jJ ?_|refine jK ?_|refine jL ?_|refine jM (by assumption) ?_|refine jN (by assumption) rfl ?_|refine jO (by assumption) ?_|refine jP (by assumption) rfl ?_|refine jQ ?_|refine jR ?_|refine jS ?_|refine jT ?_|refine jU (by assumption) rfl ?_))
              by_cases g4 : op = 9 ∨ op = 10
              · have hn : noughtN N op a b = isK N a 0 := by
                  unfold noughtN
                  rw [if_neg (fun h => g1 h.1), if_neg g3, if_pos g4]
                refine M.share_j (fun vals w' => vals = [.bool true] ∧ w = w') ?_ ?_
                · rintro vals w' ⟨rfl, rfl⟩ _
                  simp only [List.getD_cons_zero, List.getD_cons_succ]
                  (repeat (first|refine ja ?_|refine jb ?_|refine jc ?_|refine jd ?_|refine je ?_|refine jf ?_|refine jg ?_|refine jh ?_|refine ji ?_|refine jj ?_|refine jk ?_|refine jl ?_|refine jm ?_|refine jn ?_|refine jo ?_|refine jp ?_|refine jq ?_|refine jr ?_|refine js ?_|refine jt ?_|refine ju ?_|refine jv ?_|refine jw ?_|refine jx ?_|refine jy ?_|refine jz ?_|refine jA ?_|refine jB ?_|refine jC ?_|refine jD ?_|refine jE ?_|refine jF ?_|refine jG ?_|refine jH ?_|refine jI ?_|refine jJ ?_|refine jK ?_|refine jL ?_|refine jM (by assumption) ?_|refine jN (by assumption) rfl ?_|refine jO (by assumption) ?_|refine jP (by assumption) rfl ?_|refine jQ ?_|refine jR ?_|refine jS ?_|refine jT ?_|refine jU (by assumption) rfl ?_))
                  refine M.call_i (is_ret hd a 0) ?_; rintro _ w1 ⟨rfl, k1⟩
                  exact ⟨by rw [hn], k1⟩
                · intro K hK
                  have hK := hK _ _ ⟨rfl, rfl⟩
                  rcases g4 with e | e
                  all_goals
                    (repeat (first|refine ja ?_|refine jb ?_|refine jc ?_|refine jd ?_|refine je ?_|refine jf ?_|refine jg ?_|refine jh ?_|refine ji ?_|refine jj ?_|refine jk ?_|refine jl ?_|refine jm ?_|refine jn ?_|refine jo ?_|refine jp ?_|refine jq ?_|refine jr ?_|refine js ?_|refine jt ?_|refine ju ?_|refine jv ?_|refine jw ?_|refine jx ?_|refine jy ?_|refine jz ?_|refine jA ?_|refine jB ?_|refine jC ?_|refine jD ?_|refine jE ?_|refine jF ?_|refine jG ?_|refine jH ?_|refine jI ?_|refine jJ ?_|refine jK ?_|refine jL ?_|refine jM (by assumption) ?_|refine jN (by assumption) rfl ?_|refine jO (by assumption) ?_|refine jP (by assumption) rfl ?_|refine jQ ?_|refine jR ?_|refine jS ?_|refine jT ?_|refine jU (by assumption) rfl ?_))
                    exact hK
              · have hn : noughtN N op a b = false := by
                  unfold noughtN
                  rw [if_neg (fun h => g1 h.1), if_neg g3, if_neg g4, decide_eq_false (by omega)]; rfl
                refine M.share_j (fun vals w' => vals = [.bool false] ∧ w = w') ?_ ?_
                · rintro vals w' ⟨rfl, rfl⟩ _
                  simp only [List.getD_cons_zero, List.getD_cons_succ]
                  (repeat (first|refine ja ?_|refine jb ?_|refine jc ?_|refine jd ?_|refine je ?_|refine jf ?_|refine jg ?_|refine jh ?_|refine ji ?_|refine jj ?_|refine jk ?_|refine jl ?_|refine jm ?_|refine jn ?_|refine jo ?_|refine jp ?_|refine jq ?_|refine jr ?_|refine js ?_|refine jt ?_|refine ju ?_|refine jv ?_|refine jw ?_|refine jx ?_|refine jy ?_|refine jz ?_|refine jA ?_|refine jB ?_|refine jC ?_|refine jD ?_|refine jE ?_|refine jF ?_|refine jG ?_|refine jH ?_|refine jI ?_|refine jJ ?_|refine jK ?_|refine jL ?_|refine jM (by assumption) ?_|refine jN (by assumption) rfl ?_|refine jO (by assumption) ?_|refine jP (by assumption) rfl ?_|refine jQ ?_|refine jR ?_|refine jS ?_|refine jT ?_|refine jU (by assumption) rfl ?_))
                  exact hK1 hn
                · intro K hK
                  have hK := hK _ _ ⟨rfl, rfl⟩
                  (repeat (first|refine ja ?_|refine jb ?_|refine jc ?_|refine jd ?_|refine je ?_|refine jf ?_|refine jg ?_|refine jh ?_|refine ji ?_|refine jj ?_|refine jk ?_|refine jl ?_|refine jm ?_|refine jn ?_|refine jo ?_|refine jp ?_|refine jq ?_|refine jr ?_|refine js ?_|refine jt ?_|refine ju ?_|refine jv ?_|refine jw ?_|refine jx ?_|refine jy ?_|refine jz ?_|refine jA ?_|refine jB ?_|refine jC ?_|refine jD ?_|refine jE ?_|refine jF ?_|refine jG ?_|refine jH ?_|refine jI ?_|refine jJ ?_|refine jK ?_|refine jL ?_|refine jM (by assumption) ?_|refine jN (by assumption) rfl ?_|refine jO (by assumption) ?_|refine jP (by assumption) rfl ?_|refine jQ ?_|refine jR ?_|refine jS ?_|refine jT ?_|refine jU (by assumption) rfl ?_))
                  exact hK
            · intro K hK
              have hK := hK _ _ ⟨rfl, rfl⟩
              (repeat (first|refine ja ?_|refine jb ?_|refine jc ?_|refine jd ?_|refine je ?_|refine jf ?_|refine jg ?_|refine jh ?_|refine ji ?_|refine jj ?_|refine jk ?_|refine jl ?_|refine jm ?_|refine jn ?_|refine jo ?_|refine jp ?_|refine jq ?_|refine jr ?_|refine js ?_|refine jt ?_|refine ju ?_|refine jv ?_|refine jw ?_|refine jx ?_|refine jy ?_|refine jz ?_|refine jA ?_|refine jB ?_|refine jC ?_|refine jD ?_|refine jE ?_|refine jF ?_|refine jG ?_|refine jH ?_|refine jI ?_|refine jJ ?_|refine jK ?_|refine jL ?_|refine jM (by assumption) ?_|refine jN (by assumption) rfl ?_|refine jO (by assumption) ?_|refine jP (by assumption) rfl ?_|refine jQ ?_|refine jR ?_|refine jS ?_|refine jT ?_|refine jU (by assumption) rfl ?_))
              exact hK
        · intro K hK
          have hK := hK _ _ ⟨rfl, rfl⟩
          (repeat (first|refine ja ?_|refine jb ?_|refine jc ?_|refine jd ?_|refine je ?_|refine jf ?_|refine jg ?_|refine jh ?_|refine ji ?_|refine jj ?_|refine jk ?_|refine jl ?_|refine jm ?_|refine jn ?_|refine jo ?_|refine jp ?_|refine jq ?_|refine jr ?_|refine js ?_|refine jt ?_|refine ju ?_|refine jv ?_|refine jw ?_|refine jx ?_|refine jy ?_|refine jz ?_|refine jA ?_|refine jB ?_|refine jC ?_|refine jD ?_|refine jE ?_|refine jF ?_|refine jG ?_|refine jH ?_|refine jI ?_|refine jJ ?_|refine jK ?_|refine jL ?_|refine jM (by assumption) ?_|refine jN (by assumption) rfl ?_|refine jO (by assumption) ?_|refine jP (by assumption) rfl ?_|refine jQ ?_|refine jR ?_|refine jS ?_|refine jT ?_|refine jU (by assumption) rfl ?_))
          exact hK
    · intro K hK
      have hK := hK _ _ ⟨rfl, rfl⟩
      (repeat (first|refine ja ?_|refine jb ?_|refine jc ?_|refine jd ?_|refine je ?_|refine jf ?_|refine jg ?_|refine jh ?_|refine ji ?_|refine jj ?_|refine jk ?_|refine jl ?_|refine jm ?_|refine jn ?_|refine jo ?_|refine jp ?_|refine jq ?_|refine jr ?_|refine js ?_|refine jt ?_|refine ju ?_|refine jv ?_|refine jw ?_|refine jx ?_|refine jy ?_|refine jz ?_|refine jA ?_|refine jB ?_|refine jC ?_|refine jD ?_|refine jE ?_|refine jF ?_|refine jG ?_|refine jH ?_|refine jI ?_|refine jJ ?_|refine jK ?_|refine jL ?_|refine jM (by assumption) ?_|refine jN (by assumption) rfl ?_|refine jO (by assumption) ?_|refine jP (by assumption) rfl ?_|refine jQ ?_|refine jR ?_|refine jS ?_|refine jT ?_|refine jU (by assumption) rfl ?_))
      exact hK
theorem AskO.stay {res : Rs} {r : Value} {w' : World} (hd : DagO w F p N most) (k : Keep w w' No) (hr : r = .tuple #[vi res.2.1, vi res.2.2]) (hN : res.1 = N) : AskO w F p most res r w' :=
  ⟨F, hr, by rw [hN]; exact hd.keepN k, fun _ _ h => h, k.mono (fun _ _ h => h.elim)⟩
theorem nodeAt_width (N : List Nd) (i : Int) : (nodeAt N i).wd = wdN N i := nodeAt_wd N i
/-- An answer of the terms is handed on. -/
theorem M.pass_i {f : FuncId} {args : Array Value} {R : Kt} {w0 : World} {res : Rs} (k : Keep w0 w No) (h : Ret Try.prog f args w (AskO w F p most res)) (hR : ∀ r w', AskO w0 F p most res r w' → R r w') :
    M.call Try.prog f args (fun t w => M.extract 0 t (fun x w => M.extract 1 t (fun y w => R (.tuple #[x, y]) w) w) w) w := by
  refine M.call_i h ?_
  rintro r w1 ⟨F1, rfl, h2, h3, h4⟩
  refine M.extract_i (v := vi res.2.1) rfl ?_
  refine M.extract_i (v := vi res.2.2) rfl ?_
  exact hR _ _ (AskO.from k ⟨F1, rfl, h2, h3, h4⟩)
theorem foldUn_ret (hd : DagO w F p N most) (op a : Int) :
    Ret Try.prog 30 #[ptr p, vi op, vi a] w (AskO w F p most (foldUn most N op a)) := by
  refine ok30 _ _ _ _ _ ?_
  unfold sh30
  refine M.call_i (hd.node a) ?_; rintro _ w1 ⟨rfl, k1⟩
  refine M.extract_i (v := encN (nodeAt N a)) rfl ?_
  refine M.extract_i (v := .bool (isN N a)) rfl ?_
  refine M.new_i (l := zeroNd.cells) (fun w2 b2 k2 s2 => ?_)
  refine M.storeAll_i b2 rfl rfl (cells_one _) (fun w3 b3 k3 s3 => ?_)
  have k := keepT1 (k1.trans k2 (fun _ _ h => h)) k3 k1.size
  have b3 : Blk w3 w1.heap.size [vi (nodeAt N a).op, vi (nodeAt N a).wd, vi (nodeAt N a).a, vi (nodeAt N a).b, vi (nodeAt N a).c, vw (nodeAt N a).val] := b3
  have hd3 := hd.keepN k
  unfold foldUn
  cases hi : isN N a with
  | false =>
    rw [if_neg (by simp)]
    (repeat (first|refine ja ?_|refine jb ?_|refine jc ?_|refine jd ?_|refine je ?_|refine jf ?_|refine jg ?_|refine jh ?_|refine ji ?_|refine jj ?_|refine jk ?_|refine jl ?_|refine jm ?_|refine jn ?_|refine jo ?_|refine jp ?_|refine jq ?_|refine jr ?_|refine js ?_|refine jt ?_|refine ju ?_|refine jv ?_|refine jw ?_|refine jx ?_|refine jy ?_|refine jz ?_|refine jA ?_|refine jB ?_|refine jC ?_|refine jD ?_|refine jE ?_|refine jF ?_|refine jG ?_|refine jH ?_|refine jI ?_|refine jJ ?_|refine jK ?_|refine jL ?_|refine jM (by assumption) ?_|refine jN (by assumption) rfl ?_|refine jO (by assumption) ?_|refine jP (by assumption) rfl ?_|refine jQ ?_|refine jR ?_|refine jS ?_|refine jT ?_|refine jU (by assumption) rfl ?_))
    exact M.pass_i k (unary_ret hd3 op a) (fun _ _ h => h)
  | true =>
    by_cases ho : op = 15 ∨ op = 16
    · rw [if_pos ⟨rfl, ho⟩]
      rcases ho with e | e
      all_goals
        (repeat (first|refine ja ?_|refine jb ?_|refine jc ?_|refine jd ?_|refine je ?_|refine jf ?_|refine jg ?_|refine jh ?_|refine ji ?_|refine jj ?_|refine jk ?_|refine jl ?_|refine jm ?_|refine jn ?_|refine jo ?_|refine jp ?_|refine jq ?_|refine jr ?_|refine js ?_|refine jt ?_|refine ju ?_|refine jv ?_|refine jw ?_|refine jx ?_|refine jy ?_|refine jz ?_|refine jA ?_|refine jB ?_|refine jC ?_|refine jD ?_|refine jE ?_|refine jF ?_|refine jG ?_|refine jH ?_|refine jI ?_|refine jJ ?_|refine jK ?_|refine jL ?_|refine jM (by assumption) ?_|refine jN (by assumption) rfl ?_|refine jO (by assumption) ?_|refine jP (by assumption) rfl ?_|refine jQ ?_|refine jR ?_|refine jS ?_|refine jT ?_|refine jU (by assumption) rfl ?_))
        refine M.call_i (known_ret hd3 a) ?_; rintro _ w4 ⟨rfl, k4⟩
        refine M.extract_i (v := vw ((knownN N a).getD 0)) rfl ?_
        refine M.extract_i (v := .bool (knownN N a).isSome) rfl ?_
        have b4 := b3.keep k4 (fun h => h)
        have k04 := k.trans k4 (fun _ _ h => h)
        have hd4 := hd.keepN k04
        cases hk : knownN N a with
        | some v =>
          (repeat (first|refine ja ?_|refine jb ?_|refine jc ?_|refine jd ?_|refine je ?_|refine jf ?_|refine jg ?_|refine jh ?_|refine ji ?_|refine jj ?_|refine jk ?_|refine jl ?_|refine jm ?_|refine jn ?_|refine jo ?_|refine jp ?_|refine jq ?_|refine jr ?_|refine js ?_|refine jt ?_|refine ju ?_|refine jv ?_|refine jw ?_|refine jx ?_|refine jy ?_|refine jz ?_|refine jA ?_|refine jB ?_|refine jC ?_|refine jD ?_|refine jE ?_|refine jF ?_|refine jG ?_|refine jH ?_|refine jI ?_|refine jJ ?_|refine jK ?_|refine jL ?_|refine jM (by assumption) ?_|refine jN (by assumption) rfl ?_|refine jO (by assumption) ?_|refine jP (by assumption) rfl ?_|refine jQ ?_|refine jR ?_|refine jS ?_|refine jT ?_|refine jU (by assumption) rfl ?_))
          refine M.call_i (wunary_ret op (nodeAt N a).wd v w4) ?_; rintro _ w5 ⟨rfl, rfl⟩
          refine M.extract_i (v := vw (unW op (nodeAt N a).wd v)) rfl ?_
          refine M.extract_i (v := vi (unE op (nodeAt N a).wd)) rfl ?_
          (repeat (first|refine ja ?_|refine jb ?_|refine jc ?_|refine jd ?_|refine je ?_|refine jf ?_|refine jg ?_|refine jh ?_|refine ji ?_|refine jj ?_|refine jk ?_|refine jl ?_|refine jm ?_|refine jn ?_|refine jo ?_|refine jp ?_|refine jq ?_|refine jr ?_|refine js ?_|refine jt ?_|refine ju ?_|refine jv ?_|refine jw ?_|refine jx ?_|refine jy ?_|refine jz ?_|refine jA ?_|refine jB ?_|refine jC ?_|refine jD ?_|refine jE ?_|refine jF ?_|refine jG ?_|refine jH ?_|refine jI ?_|refine jJ ?_|refine jK ?_|refine jL ?_|refine jM (by assumption) ?_|refine jN (by assumption) rfl ?_|refine jO (by assumption) ?_|refine jP (by assumption) rfl ?_|refine jQ ?_|refine jR ?_|refine jS ?_|refine jT ?_|refine jU (by assumption) rfl ?_))
          rw [nodeAt_width]
          exact M.pass_i k04 (const_ret hd4 (wdN N a) _) (fun _ _ h => h)
        | none =>
          by_cases hop : (nodeAt N a).op = op
          · (repeat (first|refine ja ?_|refine jb ?_|refine jc ?_|refine jd ?_|refine je ?_|refine jf ?_|refine jg ?_|refine jh ?_|refine ji ?_|refine jj ?_|refine jk ?_|refine jl ?_|refine jm ?_|refine jn ?_|refine jo ?_|refine jp ?_|refine jq ?_|refine jr ?_|refine js ?_|refine jt ?_|refine ju ?_|refine jv ?_|refine jw ?_|refine jx ?_|refine jy ?_|refine jz ?_|refine jA ?_|refine jB ?_|refine jC ?_|refine jD ?_|refine jE ?_|refine jF ?_|refine jG ?_|refine jH ?_|refine jI ?_|refine jJ ?_|refine jK ?_|refine jL ?_|refine jM (by assumption) ?_|refine jN (by assumption) rfl ?_|refine jO (by assumption) ?_|refine jP (by assumption) rfl ?_|refine jQ ?_|refine jR ?_|refine jS ?_|refine jT ?_|refine jU (by assumption) rfl ?_))
            refine AskO.stay hd k04 ?_ ?_
            · simp only [if_pos hop]
            · simp only [if_pos hop]
          · (repeat (first|refine ja ?_|refine jb ?_|refine jc ?_|refine jd ?_|refine je ?_|refine jf ?_|refine jg ?_|refine jh ?_|refine ji ?_|refine jj ?_|refine jk ?_|refine jl ?_|refine jm ?_|refine jn ?_|refine jo ?_|refine jp ?_|refine jq ?_|refine jr ?_|refine js ?_|refine jt ?_|refine ju ?_|refine jv ?_|refine jw ?_|refine jx ?_|refine jy ?_|refine jz ?_|refine jA ?_|refine jB ?_|refine jC ?_|refine jD ?_|refine jE ?_|refine jF ?_|refine jG ?_|refine jH ?_|refine jI ?_|refine jJ ?_|refine jK ?_|refine jL ?_|refine jM (by assumption) ?_|refine jN (by assumption) rfl ?_|refine jO (by assumption) ?_|refine jP (by assumption) rfl ?_|refine jQ ?_|refine jR ?_|refine jS ?_|refine jT ?_|refine jU (by assumption) rfl ?_))
            simp only [if_neg hop]
            exact M.pass_i k04 (unary_ret hd4 op a) (fun _ _ h => h)
    · rw [if_neg (fun h => ho h.2)]
      (repeat (first|refine ja ?_|refine jb ?_|refine jc ?_|refine jd ?_|refine je ?_|refine jf ?_|refine jg ?_|refine jh ?_|refine ji ?_|refine jj ?_|refine jk ?_|refine jl ?_|refine jm ?_|refine jn ?_|refine jo ?_|refine jp ?_|refine jq ?_|refine jr ?_|refine js ?_|refine jt ?_|refine ju ?_|refine jv ?_|refine jw ?_|refine jx ?_|refine jy ?_|refine jz ?_|refine jA ?_|refine jB ?_|refine jC ?_|refine jD ?_|refine jE ?_|refine jF ?_|refine jG ?_|refine jH ?_|refine jI ?_|refine jJ ?_|refine jK ?_|refine jL ?_|refine jM (by assumption) ?_|refine jN (by assumption) rfl ?_|refine jO (by assumption) ?_|refine jP (by assumption) rfl ?_|refine jQ ?_|refine jR ?_|refine jS ?_|refine jT ?_|refine jU (by assumption) rfl ?_))
      exact M.pass_i k (unary_ret hd3 op a) (fun _ _ h => h)
end
end Go.Proofs.Ytanjlgafjgoaaaa
