import Derived.Test.YthkkjjbjpbgcpaaDagE
import Derived.Laws.StructEq
import Derived.Tactics
namespace Go.Proofs.Ythkkjjbjpbgcpaa
open Go.Mw Go.Maps Go.MapKept
set_option linter.unusedVariables false
set_option linter.unusedSimpArgs false
set_option maxRecDepth 100000
attribute [local irreducible] M.val M.unit M.next M.pick M.new M.nilCheck M.load1 M.loadA M.store M.fieldAddr M.indexSl M.indexArr M.slice M.makeSlice M.buildSlice M.len M.lenS M.cap M.append M.extract M.conv M.not M.neg M.bin M.shift M.eqB M.eqNil M.scat M.call M.callv M.gd M.share M.cond M.loop M.draw pureW readW Ret
/-! breakwater/breakwaterref15.New: function 16 -/
def sh16 (x0 : Value) (R : Kt) (w : World) : Prop :=
  M.new 27 #[.slice none 0 0, .int .i64 0] (fun t2 w =>
  M.share (fun K1 w =>
  M.bin .lss x0 (Value.int IntKind.i64 0) (fun t4 w =>
  M.gd t4 false (fun k w => k x0 w) (fun t6 w =>
  M.gd t4 false (fun k w => M.bin .gtr t6 (Value.int IntKind.i64 65536) k w) (fun t7 w =>
  M.pick t4 (Value.bool true) t7 (fun t8 w =>
  M.cond t8
  (K1 [(Value.int IntKind.i64 0)] w)
  (K1 [x0] w)) w) w) w) w) (fun s1 w => ∀ _ : List Value,
  pureW Try.prog (Instr.build 27 #[(1, (s1.getD 0 undef))]) (fun t10 w =>
  M.store 2 t2 t10 (fun _ w =>
  M.loadA 2 t2 (fun r0 w => R r0 w) w) w) w) w) w
theorem ok16 (x0 : Value) (R : Kt) (w : World) (h : sh16 x0 R w) : Ret Try.prog 16 #[x0] w R :=
  ret_mk <| calls_of_comp mixed (c := Try.f16.body.getD .skip) (args := [x0]) (rs := [(ResultVar.cell 2 27)]) (Ann.seq Ann.text (Ann.join [0] [3, 4, 5, 6, 7, 8] (Ann.seq Ann.text (Ann.cond Ann.text Ann.leaf)) (Ann.seq Ann.text Ann.leaf)))
    Try.func16 (by kernel_rfl) (by kernel_rfl)
    (Eq.mp (by kernel_rfl) h)
/-! breakwater/breakwaterref15.made: function 65 -/
def sh65 (x0 x1 : Value) (R : Kt) (w : World) : Prop :=
  M.new 27 (Value.cells x0) (fun t2 w =>
  M.new 55 (Value.cells x1) (fun t3 w =>
  M.new 27 #[.slice none 0 0, .int .i64 0] (fun t4 w =>
  M.loop [(Value.int IntKind.i64 0)] (fun s1 K1 w => ∀ _ : List Value,
  M.fieldAddr 0 t2 (fun t10 w =>
  M.load1 t10 (fun t11 w =>
  M.len t11 (fun t12 w =>
  M.bin .lss (s1.getD 0 undef) t12 (fun t13 w =>
  M.cond t13
  (M.draw (fun w =>
  M.fieldAddr 0 t2 (fun t16 w =>
  M.load1 t16 (fun t17 w =>
  M.indexSl 6 t17 (s1.getD 0 undef) (fun t19 w =>
  M.loadA 6 t19 (fun t20 w =>
  M.loadA 6 t3 (fun t21 w =>
  M.val Try.prog (do eqGuard .eql 55 (Operand.tmp 20) (Operand.tmp 21) t20 t21; binOp .eql 55 t20 t21) (fun t22 w =>
  ((M.load1 t16 (fun v' _ => v' = t17) w) ∧ M.cond t22
  (M.loadA 2 t2 (fun t23 w =>
  M.store 2 t4 t23 (fun _ w =>
  M.loadA 2 t4 (fun r0 w => R (.tuple #[r0, (s1.getD 0 undef), (Value.int IntKind.i64 0)]) w) w) w) w)
  (M.bin .add (s1.getD 0 undef) (Value.int IntKind.i64 1) (fun t15 w =>
  K1 [t15] w) w))) w) w) w) w) w) w) w)
  (M.fieldAddr 0 t2 (fun t25 w =>
  M.load1 t25 (fun t26 w =>
  M.len t26 (fun t27 w =>
  M.fieldAddr 1 t2 (fun t28 w =>
  M.load1 t28 (fun t29 w =>
  M.bin .geq t27 t29 (fun t30 w =>
  M.cond t30
  (M.loadA 2 t2 (fun t31 w =>
  M.store 2 t4 t31 (fun _ w =>
  M.loadA 2 t4 (fun r0 w => R (.tuple #[r0, (Value.int IntKind.i64 0), (Value.int IntKind.i64 8)]) w) w) w) w)
  (M.fieldAddr 0 t2 (fun t33 w =>
  M.load1 t33 (fun t34 w =>
  M.append 55 6 48 #[.int .i64 0, .int .i64 0, .int .i64 0, .int .i64 0, .int .i64 0, .int .u64 0] (Value.slice none 0 0) t34 (fun t35 w =>
  M.loadA 6 t3 (fun t37 w =>
  M.buildSlice 55 6 #[.int .i64 0, .int .i64 0, .int .i64 0, .int .i64 0, .int .i64 0, .int .u64 0] 1 [(0, t37)] (fun t38 w =>
  M.append 55 6 48 #[.int .i64 0, .int .i64 0, .int .i64 0, .int .i64 0, .int .i64 0, .int .u64 0] t35 t38 (fun t39 w =>
  M.fieldAddr 0 t2 (fun t41 w =>
  M.store 1 t41 t39 (fun _ w =>
  M.draw (fun w =>
  M.loadA 2 t2 (fun t42 w =>
  M.fieldAddr 0 t2 (fun t43 w =>
  M.load1 t43 (fun t44 w =>
  M.len t44 (fun t45 w =>
  M.bin .sub t45 (Value.int IntKind.i64 1) (fun t46 w =>
  M.store 2 t4 t42 (fun _ w =>
  ((M.load1 t43 (fun v' _ => v' = t44) w) ∧ M.loadA 2 t4 (fun r0 w => R (.tuple #[r0, t46, (Value.int IntKind.i64 0)]) w) w)) w) w) w) w) w) w) w) w) w) w) w) w) w) w) w)) w) w) w) w) w) w)) w) w) w) w) w) w) w) w
theorem ok65 (x0 x1 : Value) (R : Kt) (w : World) (h : sh65 x0 x1 R w) : Ret Try.prog 65 #[x0, x1] w R :=
  ret_mk <| calls_of_comp mixed (c := Try.f65.body.getD .skip) (args := [x0, x1]) (rs := [(ResultVar.cell 4 27), (ResultVar.tmp 5), (ResultVar.tmp 6)]) (Ann.seq Ann.text (Ann.seq (Ann.seq Ann.text (Ann.block (Ann.loop [7] [5, 6, 9, 10, 11, 12, 13, 14, 15, 16, 17, 18, 19, 20, 21, 22, 23, 24] (Ann.seq (Ann.seq Ann.text (Ann.cond Ann.leaf Ann.leaf)) (Ann.seq (Ann.block (Ann.seq (Ann.draw (Sch.take 0 (Sch.take 1 (Sch.take 2 (Sch.take 3 (Sch.take 4 (Sch.take 5 (Sch.one 6 Sch.done)))))))) (Ann.cond (Ann.seq Ann.text Ann.leaf) Ann.leaf))) Ann.text))))) (Ann.seq (Ann.seq Ann.text (Ann.cond (Ann.seq Ann.text Ann.leaf) Ann.leaf)) (Ann.seq Ann.text (Ann.seq Ann.text (Ann.seq Ann.text (Ann.seq Ann.text (Ann.seq (Ann.draw (Sch.take 0 (Sch.take 1 (Sch.take 2 (Sch.take 3 (Sch.take 4 (Sch.one 5 (Sch.take 6 (Sch.take 7 Sch.done))))))))) Ann.leaf))))))))
    Try.func65 (by kernel_rfl) (by kernel_rfl)
    (Eq.mp (by kernel_rfl) h)
/-! breakwater/breakwaterref15.Is: function 25 -/
def sh25 (x0 x1 : Value) (R : Kt) (w : World) : Prop :=
  M.new 27 (Value.cells x0) (fun t2 w =>
  M.bin .geq x1 (Value.int IntKind.i64 0) (fun t6 w =>
  M.gd t6 true (fun k w => k x1 w) (fun t8 w =>
  M.gd t6 true (fun k w => M.fieldAddr 0 t2 k w) (fun t9 w =>
  M.gd t6 true (fun k w => M.load1 t9 k w) (fun t10 w =>
  M.gd t6 true (fun k w => M.len t10 k w) (fun t11 w =>
  M.gd t6 true (fun k w => M.bin .lss t8 t11 k w) (fun t12 w =>
  M.pick t6 t12 (Value.bool false) (fun t13 w =>
  R t13 w) w) w) w) w) w) w) w) w
theorem ok25 (x0 x1 : Value) (R : Kt) (w : World) (h : sh25 x0 x1 R w) : Ret Try.prog 25 #[x0, x1] w R :=
  ret_mk <| calls_of_comp mixed (c := Try.f25.body.getD .skip) (args := [x0, x1]) (rs := [(ResultVar.tmp 4)]) (Ann.seq Ann.text (Ann.seq Ann.text Ann.leaf))
    Try.func25 (by kernel_rfl) (by kernel_rfl)
    (Eq.mp (by kernel_rfl) h)
/-! breakwater/breakwaterref15.Width: function 31 -/
def sh31 (x0 x1 : Value) (R : Kt) (w : World) : Prop :=
  M.new 27 (Value.cells x0) (fun t2 w =>
  M.loadA 2 t2 (fun t5 w =>
  M.call Try.prog 25 #[t5, x1] (fun t7 w =>
  M.not t7 (fun t8 w =>
  M.cond t8
  (R (Value.int IntKind.i64 0) w)
  (M.fieldAddr 0 t2 (fun t9 w =>
  M.load1 t9 (fun t10 w =>
  M.indexSl 6 t10 x1 (fun t12 w =>
  M.fieldAddr 1 t12 (fun t13 w =>
  M.load1 t13 (fun t14 w =>
  R t14 w) w) w) w) w) w)) w) w) w) w
theorem ok31 (x0 x1 : Value) (R : Kt) (w : World) (h : sh31 x0 x1 R w) : Ret Try.prog 31 #[x0, x1] w R :=
  ret_mk <| calls_of_comp mixed (c := Try.f31.body.getD .skip) (args := [x0, x1]) (rs := [(ResultVar.tmp 4)]) (Ann.seq Ann.text (Ann.seq (Ann.seq Ann.text (Ann.cond (Ann.seq Ann.text Ann.leaf) Ann.leaf)) (Ann.seq Ann.text Ann.leaf)))
    Try.func31 (by kernel_rfl) (by kernel_rfl)
    (Eq.mp (by kernel_rfl) h)
/-! breakwater/breakwaterref15.Const: function 44 -/
def sh44 (x0 x1 x2 : Value) (R : Kt) (w : World) : Prop :=
  M.new 27 (Value.cells x0) (fun t3 w =>
  M.new 27 #[.slice none 0 0, .int .i64 0] (fun t6 w =>
  M.call Try.prog 64 #[x1] (fun t10 w =>
  M.not t10 (fun t11 w =>
  M.cond t11
  (M.loadA 2 t3 (fun t12 w =>
  M.store 2 t6 t12 (fun _ w =>
  M.loadA 2 t6 (fun r0 w => R (.tuple #[r0, (Value.int IntKind.i64 0), (Value.int IntKind.i64 2)]) w) w) w) w)
  (M.draw (fun w =>
  M.loadA 2 t3 (fun t13 w =>
  M.call Try.prog 66 #[x1, x2] (fun t17 w =>
  ((M.loadA 2 t3 (fun v' _ => v' = t13) w) ∧ pureW Try.prog (Instr.build 55 #[(0, (Value.int IntKind.i64 20)), (1, x1), (5, t17)]) (fun t18 w =>
  M.call Try.prog 65 #[t13, t18] (fun t19 w =>
  M.extract 0 t19 (fun t20 w =>
  M.extract 1 t19 (fun t21 w =>
  M.extract 2 t19 (fun t22 w =>
  M.store 2 t6 t20 (fun _ w =>
  M.loadA 2 t6 (fun r0 w => R (.tuple #[r0, t21, t22]) w) w) w) w) w) w) w) w)) w) w) w)) w) w) w) w
theorem ok44 (x0 x1 x2 : Value) (R : Kt) (w : World) (h : sh44 x0 x1 x2 R w) : Ret Try.prog 44 #[x0, x1, x2] w R :=
  ret_mk <| calls_of_comp mixed (c := Try.f44.body.getD .skip) (args := [x0, x1, x2]) (rs := [(ResultVar.cell 6 27), (ResultVar.tmp 7), (ResultVar.tmp 8)]) (Ann.seq Ann.text (Ann.seq (Ann.seq Ann.text (Ann.cond (Ann.seq Ann.text Ann.leaf) Ann.leaf)) (Ann.seq (Ann.draw (Sch.take 0 (Sch.take 1 (Sch.take 2 (Sch.take 3 (Sch.one 4 (Sch.take 5 (Sch.one 6 (Sch.take 7 (Sch.take 8 (Sch.take 9 (Sch.one 10 (Sch.take 11 (Sch.take 12 Sch.done)))))))))))))) Ann.leaf)))
    Try.func44 (by kernel_rfl) (by kernel_rfl)
    (Eq.mp (by kernel_rfl) h)
/-! breakwater/breakwaterref15.Var: function 45 -/
def sh45 (x0 x1 x2 : Value) (R : Kt) (w : World) : Prop :=
  M.new 27 (Value.cells x0) (fun t3 w =>
  M.new 27 #[.slice none 0 0, .int .i64 0] (fun t6 w =>
  M.call Try.prog 64 #[x1] (fun t11 w =>
  M.not t11 (fun t12 w =>
  M.cond t12
  (M.loadA 2 t3 (fun t13 w =>
  M.store 2 t6 t13 (fun _ w =>
  M.loadA 2 t6 (fun r0 w => R (.tuple #[r0, (Value.int IntKind.i64 0), (Value.int IntKind.i64 2)]) w) w) w) w)
  (M.bin .lss x2 (Value.int IntKind.i64 0) (fun t15 w =>
  M.gd t15 false (fun k w => k x2 w) (fun t17 w =>
  M.gd t15 false (fun k w => M.bin .gtr t17 (Value.int IntKind.i64 255) k w) (fun t18 w =>
  M.pick t15 (Value.bool true) t18 (fun t19 w =>
  M.cond t19
  (M.loadA 2 t3 (fun t20 w =>
  M.store 2 t6 t20 (fun _ w =>
  M.loadA 2 t6 (fun r0 w => R (.tuple #[r0, (Value.int IntKind.i64 0), (Value.int IntKind.i64 10)]) w) w) w) w)
  (M.loop [(Value.int IntKind.i64 0)] (fun s1 K1 w => ∀ _ : List Value,
  M.fieldAddr 0 t3 (fun t22 w =>
  M.load1 t22 (fun t23 w =>
  M.len t23 (fun t24 w =>
  M.bin .lss (s1.getD 0 undef) t24 (fun t25 w =>
  M.cond t25
  (M.fieldAddr 0 t3 (fun t28 w =>
  M.load1 t28 (fun t29 w =>
  M.indexSl 6 t29 (s1.getD 0 undef) (fun t31 w =>
  M.fieldAddr 0 t31 (fun t32 w =>
  M.load1 t32 (fun t33 w =>
  M.bin .eql t33 (Value.int IntKind.i64 21) (fun t34 w =>
  M.gd t34 true (fun k w => M.fieldAddr 0 t3 k w) (fun t36 w =>
  M.gd t34 true (fun k w => M.load1 t36 k w) (fun t37 w =>
  M.gd t34 true (fun k w => k (s1.getD 0 undef) w) (fun t38 w =>
  M.gd t34 true (fun k w => M.indexSl 6 t37 t38 k w) (fun t39 w =>
  M.gd t34 true (fun k w => M.fieldAddr 2 t39 k w) (fun t40 w =>
  M.gd t34 true (fun k w => M.load1 t40 k w) (fun t41 w =>
  M.gd t34 true (fun k w => k x2 w) (fun t42 w =>
  M.gd t34 true (fun k w => M.bin .eql t41 t42 k w) (fun t43 w =>
  M.pick t34 t43 (Value.bool false) (fun t44 w =>
  M.gd t44 true (fun k w => M.fieldAddr 0 t3 k w) (fun t46 w =>
  M.gd t44 true (fun k w => M.load1 t46 k w) (fun t47 w =>
  M.gd t44 true (fun k w => k (s1.getD 0 undef) w) (fun t48 w =>
  M.gd t44 true (fun k w => M.indexSl 6 t47 t48 k w) (fun t49 w =>
  M.gd t44 true (fun k w => M.fieldAddr 1 t49 k w) (fun t50 w =>
  M.gd t44 true (fun k w => M.load1 t50 k w) (fun t51 w =>
  M.gd t44 true (fun k w => k x1 w) (fun t52 w =>
  M.gd t44 true (fun k w => M.bin .neq t51 t52 k w) (fun t53 w =>
  M.pick t44 t53 (Value.bool false) (fun t54 w =>
  M.cond t54
  (M.loadA 2 t3 (fun t55 w =>
  M.store 2 t6 t55 (fun _ w =>
  M.loadA 2 t6 (fun r0 w => R (.tuple #[r0, (Value.int IntKind.i64 0), (Value.int IntKind.i64 2)]) w) w) w) w)
  (M.bin .add (s1.getD 0 undef) (Value.int IntKind.i64 1) (fun t27 w =>
  K1 [t27] w) w)) w) w) w) w) w) w) w) w) w) w) w) w) w) w) w) w) w) w) w) w) w) w) w) w)
  (M.loadA 2 t3 (fun t56 w =>
  pureW Try.prog (Instr.build 55 #[(0, (Value.int IntKind.i64 21)), (1, x1), (2, x2)]) (fun t59 w =>
  M.call Try.prog 65 #[t56, t59] (fun t60 w =>
  M.extract 0 t60 (fun t61 w =>
  M.extract 1 t60 (fun t62 w =>
  M.extract 2 t60 (fun t63 w =>
  M.store 2 t6 t61 (fun _ w =>
  M.loadA 2 t6 (fun r0 w => R (.tuple #[r0, t62, t63]) w) w) w) w) w) w) w) w) w)) w) w) w) w) w)) w) w) w) w)) w) w) w) w
theorem ok45 (x0 x1 x2 : Value) (R : Kt) (w : World) (h : sh45 x0 x1 x2 R w) : Ret Try.prog 45 #[x0, x1, x2] w R :=
  ret_mk <| calls_of_comp mixed (c := Try.f45.body.getD .skip) (args := [x0, x1, x2]) (rs := [(ResultVar.cell 6 27), (ResultVar.tmp 7), (ResultVar.tmp 8)]) (Ann.seq Ann.text (Ann.seq (Ann.seq Ann.text (Ann.cond (Ann.seq Ann.text Ann.leaf) Ann.leaf)) (Ann.seq (Ann.seq Ann.text (Ann.cond (Ann.seq Ann.text Ann.leaf) Ann.leaf)) (Ann.seq (Ann.seq Ann.text (Ann.block (Ann.loop [9] [7, 8, 21, 22, 23, 24, 25, 26, 27, 28, 29, 30, 31, 32, 33, 34, 35, 36, 37, 38, 39, 40, 41, 42, 43, 44, 45, 46, 47, 48, 49, 50, 51, 52, 53, 54, 55] (Ann.seq (Ann.seq Ann.text (Ann.cond Ann.leaf Ann.leaf)) (Ann.seq (Ann.block (Ann.seq Ann.text (Ann.cond (Ann.seq Ann.text Ann.leaf) Ann.leaf))) Ann.text))))) (Ann.seq Ann.text Ann.leaf)))))
    Try.func45 (by kernel_rfl) (by kernel_rfl)
    (Eq.mp (by kernel_rfl) h)
/-! breakwater/breakwaterref15.Unary: function 46 -/
def sh46 (x0 x1 x2 : Value) (R : Kt) (w : World) : Prop :=
  M.new 27 (Value.cells x0) (fun t3 w =>
  M.new 27 #[.slice none 0 0, .int .i64 0] (fun t6 w =>
  M.bin .neq x1 (Value.int IntKind.i64 15) (fun t10 w =>
  M.gd t10 true (fun k w => k x1 w) (fun t12 w =>
  M.gd t10 true (fun k w => M.bin .neq t12 (Value.int IntKind.i64 16) k w) (fun t13 w =>
  M.pick t10 t13 (Value.bool false) (fun t14 w =>
  M.cond t14
  (M.loadA 2 t3 (fun t15 w =>
  M.store 2 t6 t15 (fun _ w =>
  M.loadA 2 t6 (fun r0 w => R (.tuple #[r0, (Value.int IntKind.i64 0), (Value.int IntKind.i64 3)]) w) w) w) w)
  (M.loadA 2 t3 (fun t16 w =>
  M.call Try.prog 25 #[t16, x2] (fun t18 w =>
  M.not t18 (fun t19 w =>
  M.cond t19
  (M.loadA 2 t3 (fun t20 w =>
  M.store 2 t6 t20 (fun _ w =>
  M.loadA 2 t6 (fun r0 w => R (.tuple #[r0, (Value.int IntKind.i64 0), (Value.int IntKind.i64 11)]) w) w) w) w)
  (M.draw (fun w =>
  M.loadA 2 t3 (fun t21 w =>
  M.loadA 2 t3 (fun t23 w =>
  M.call Try.prog 31 #[t23, x2] (fun t25 w =>
  ((M.loadA 2 t3 (fun v' _ => v' = t21) w) ∧ pureW Try.prog (Instr.build 55 #[(0, x1), (1, t25), (2, x2)]) (fun t27 w =>
  M.call Try.prog 65 #[t21, t27] (fun t28 w =>
  M.extract 0 t28 (fun t29 w =>
  M.extract 1 t28 (fun t30 w =>
  M.extract 2 t28 (fun t31 w =>
  M.store 2 t6 t29 (fun _ w =>
  M.loadA 2 t6 (fun r0 w => R (.tuple #[r0, t30, t31]) w) w) w) w) w) w) w) w)) w) w) w) w)) w) w) w)) w) w) w) w) w) w
theorem ok46 (x0 x1 x2 : Value) (R : Kt) (w : World) (h : sh46 x0 x1 x2 R w) : Ret Try.prog 46 #[x0, x1, x2] w R :=
  ret_mk <| calls_of_comp mixed (c := Try.f46.body.getD .skip) (args := [x0, x1, x2]) (rs := [(ResultVar.cell 6 27), (ResultVar.tmp 7), (ResultVar.tmp 8)]) (Ann.seq Ann.text (Ann.seq (Ann.seq Ann.text (Ann.cond (Ann.seq Ann.text Ann.leaf) Ann.leaf)) (Ann.seq (Ann.seq Ann.text (Ann.cond (Ann.seq Ann.text Ann.leaf) Ann.leaf)) (Ann.seq (Ann.draw (Sch.take 0 (Sch.take 1 (Sch.take 2 (Sch.take 3 (Sch.take 5 (Sch.one 4 (Sch.take 6 (Sch.one 7 (Sch.take 8 (Sch.take 9 (Sch.take 10 (Sch.one 11 (Sch.take 12 (Sch.take 13 Sch.done))))))))))))))) Ann.leaf))))
    Try.func46 (by kernel_rfl) (by kernel_rfl)
    (Eq.mp (by kernel_rfl) h)
/-! breakwater/breakwaterref15.Binary: function 47 -/
def sh47 (x0 x1 x2 x3 : Value) (R : Kt) (w : World) : Prop :=
  M.new 27 (Value.cells x0) (fun t4 w =>
  M.new 27 #[.slice none 0 0, .int .i64 0] (fun t8 w =>
  M.bin .lss x1 (Value.int IntKind.i64 1) (fun t13 w =>
  M.gd t13 false (fun k w => k x1 w) (fun t15 w =>
  M.gd t13 false (fun k w => M.bin .gtr t15 (Value.int IntKind.i64 14) k w) (fun t16 w =>
  M.pick t13 (Value.bool true) t16 (fun t17 w =>
  M.cond t17
  (M.loadA 2 t4 (fun t18 w =>
  M.store 2 t8 t18 (fun _ w =>
  M.loadA 2 t8 (fun r0 w => R (.tuple #[r0, (Value.int IntKind.i64 0), (Value.int IntKind.i64 3)]) w) w) w) w)
  (M.loadA 2 t4 (fun t19 w =>
  M.call Try.prog 25 #[t19, x2] (fun t21 w =>
  M.not t21 (fun t22 w =>
  M.gd t22 false (fun k w => M.loadA 2 t4 k w) (fun t24 w =>
  M.gd t22 false (fun k w => k x3 w) (fun t25 w =>
  M.gd t22 false (fun k w => M.call Try.prog 25 #[t24, t25] k w) (fun t26 w =>
  M.gd t22 false (fun k w => M.not t26 k w) (fun t27 w =>
  M.pick t22 (Value.bool true) t27 (fun t28 w =>
  M.cond t28
  (M.loadA 2 t4 (fun t29 w =>
  M.store 2 t8 t29 (fun _ w =>
  M.loadA 2 t8 (fun r0 w => R (.tuple #[r0, (Value.int IntKind.i64 0), (Value.int IntKind.i64 11)]) w) w) w) w)
  (M.loadA 2 t4 (fun t30 w =>
  M.call Try.prog 31 #[t30, x2] (fun t32 w =>
  M.loadA 2 t4 (fun t34 w =>
  M.call Try.prog 31 #[t34, x3] (fun t36 w =>
  M.bin .neq t32 t36 (fun t37 w =>
  M.cond t37
  (M.loadA 2 t4 (fun t38 w =>
  M.store 2 t8 t38 (fun _ w =>
  M.loadA 2 t8 (fun r0 w => R (.tuple #[r0, (Value.int IntKind.i64 0), (Value.int IntKind.i64 2)]) w) w) w) w)
  (M.share (fun K1 w =>
  M.bin .geq x1 (Value.int IntKind.i64 12) (fun t40 w =>
  M.cond t40
  (K1 [(Value.int IntKind.i64 1)] w)
  (K1 [t32] w)) w) (fun s1 w => ∀ _ : List Value,
  M.loadA 2 t4 (fun t41 w =>
  pureW Try.prog (Instr.build 55 #[(0, x1), (1, (s1.getD 0 undef)), (2, x2), (3, x3)]) (fun t46 w =>
  M.call Try.prog 65 #[t41, t46] (fun t47 w =>
  M.extract 0 t47 (fun t48 w =>
  M.extract 1 t47 (fun t49 w =>
  M.extract 2 t47 (fun t50 w =>
  M.store 2 t8 t48 (fun _ w =>
  M.loadA 2 t8 (fun r0 w => R (.tuple #[r0, t49, t50]) w) w) w) w) w) w) w) w) w) w)) w) w) w) w) w)) w) w) w) w) w) w) w) w)) w) w) w) w) w) w
theorem ok47 (x0 x1 x2 x3 : Value) (R : Kt) (w : World) (h : sh47 x0 x1 x2 x3 R w) : Ret Try.prog 47 #[x0, x1, x2, x3] w R :=
  ret_mk <| calls_of_comp mixed (c := Try.f47.body.getD .skip) (args := [x0, x1, x2, x3]) (rs := [(ResultVar.cell 8 27), (ResultVar.tmp 9), (ResultVar.tmp 10)]) (Ann.seq Ann.text (Ann.seq (Ann.seq Ann.text (Ann.cond (Ann.seq Ann.text Ann.leaf) Ann.leaf)) (Ann.seq (Ann.seq Ann.text (Ann.cond (Ann.seq Ann.text Ann.leaf) Ann.leaf)) (Ann.seq Ann.text (Ann.seq (Ann.seq Ann.text (Ann.cond (Ann.seq Ann.text Ann.leaf) Ann.leaf)) (Ann.join [11] [39, 40] (Ann.seq Ann.text (Ann.cond Ann.text Ann.leaf)) (Ann.seq Ann.text Ann.leaf)))))))
    Try.func47 (by kernel_rfl) (by kernel_rfl)
    (Eq.mp (by kernel_rfl) h)
/-! breakwater/breakwaterref15.Ite: function 48 -/
def sh48 (x0 x1 x2 x3 : Value) (R : Kt) (w : World) : Prop :=
  M.new 27 (Value.cells x0) (fun t4 w =>
  M.new 27 #[.slice none 0 0, .int .i64 0] (fun t8 w =>
  M.loadA 2 t4 (fun t11 w =>
  M.call Try.prog 25 #[t11, x1] (fun t13 w =>
  M.not t13 (fun t14 w =>
  M.gd t14 false (fun k w => M.loadA 2 t4 k w) (fun t16 w =>
  M.gd t14 false (fun k w => k x2 w) (fun t17 w =>
  M.gd t14 false (fun k w => M.call Try.prog 25 #[t16, t17] k w) (fun t18 w =>
  M.gd t14 false (fun k w => M.not t18 k w) (fun t19 w =>
  M.pick t14 (Value.bool true) t19 (fun t20 w =>
  M.gd t20 false (fun k w => M.loadA 2 t4 k w) (fun t22 w =>
  M.gd t20 false (fun k w => k x3 w) (fun t23 w =>
  M.gd t20 false (fun k w => M.call Try.prog 25 #[t22, t23] k w) (fun t24 w =>
  M.gd t20 false (fun k w => M.not t24 k w) (fun t25 w =>
  M.pick t20 (Value.bool true) t25 (fun t26 w =>
  M.cond t26
  (M.loadA 2 t4 (fun t27 w =>
  M.store 2 t8 t27 (fun _ w =>
  M.loadA 2 t8 (fun r0 w => R (.tuple #[r0, (Value.int IntKind.i64 0), (Value.int IntKind.i64 11)]) w) w) w) w)
  (M.draw (fun w =>
  M.loadA 2 t4 (fun t28 w =>
  M.call Try.prog 31 #[t28, x1] (fun t30 w =>
  M.bin .neq t30 (Value.int IntKind.i64 1) (fun t31 w =>
  M.gd t31 false (fun k w => M.loadA 2 t4 k w) (fun t33 w =>
  M.gd t31 false (fun k w => k x2 w) (fun t34 w =>
  M.gd t31 false (fun k w => M.loadA 2 t4 k w) (fun t36 w =>
  M.gd t31 false (fun k w => k x3 w) (fun t37 w =>
  M.gd t31 false (fun k w => M.call Try.prog 31 #[t33, t34] k w) (fun t35 w =>
  ((M.gd t31 false (fun k w => M.loadA 2 t4 k w) (fun v' _ => v' = t36) w) ∧ M.gd t31 false (fun k w => M.call Try.prog 31 #[t36, t37] k w) (fun t38 w =>
  M.gd t31 false (fun k w => M.bin .neq t35 t38 k w) (fun t39 w =>
  M.pick t31 (Value.bool true) t39 (fun t40 w =>
  M.cond t40
  (M.loadA 2 t4 (fun t41 w =>
  M.store 2 t8 t41 (fun _ w =>
  M.loadA 2 t8 (fun r0 w => R (.tuple #[r0, (Value.int IntKind.i64 0), (Value.int IntKind.i64 2)]) w) w) w) w)
  (M.draw (fun w =>
  M.loadA 2 t4 (fun t42 w =>
  M.loadA 2 t4 (fun t43 w =>
  M.call Try.prog 31 #[t43, x2] (fun t45 w =>
  ((M.loadA 2 t4 (fun v' _ => v' = t42) w) ∧ pureW Try.prog (Instr.build 55 #[(0, (Value.int IntKind.i64 22)), (1, t45), (2, x1), (3, x2), (4, x3)]) (fun t49 w =>
  M.call Try.prog 65 #[t42, t49] (fun t50 w =>
  M.extract 0 t50 (fun t51 w =>
  M.extract 1 t50 (fun t52 w =>
  M.extract 2 t50 (fun t53 w =>
  M.store 2 t8 t51 (fun _ w =>
  M.loadA 2 t8 (fun r0 w => R (.tuple #[r0, t52, t53]) w) w) w) w) w) w) w) w)) w) w) w) w)) w) w) w)) w) w) w) w) w) w) w) w) w)) w) w) w) w) w) w) w) w) w) w) w) w) w) w) w
theorem ok48 (x0 x1 x2 x3 : Value) (R : Kt) (w : World) (h : sh48 x0 x1 x2 x3 R w) : Ret Try.prog 48 #[x0, x1, x2, x3] w R :=
  ret_mk <| calls_of_comp mixed (c := Try.f48.body.getD .skip) (args := [x0, x1, x2, x3]) (rs := [(ResultVar.cell 8 27), (ResultVar.tmp 9), (ResultVar.tmp 10)]) (Ann.seq Ann.text (Ann.seq (Ann.seq Ann.text (Ann.cond (Ann.seq Ann.text Ann.leaf) Ann.leaf)) (Ann.seq (Ann.seq (Ann.draw (Sch.take 0 (Sch.take 1 (Sch.one 2 (Sch.take 3 (Sch.take 4 (Sch.take 5 (Sch.take 6 (Sch.take 8 (Sch.take 9 (Sch.one 7 (Sch.one 10 (Sch.take 11 (Sch.take 12 Sch.done)))))))))))))) (Ann.cond (Ann.seq Ann.text Ann.leaf) Ann.leaf)) (Ann.seq (Ann.draw (Sch.take 0 (Sch.take 1 (Sch.take 2 (Sch.take 4 (Sch.take 5 (Sch.take 6 (Sch.one 3 (Sch.take 7 (Sch.one 8 (Sch.take 9 (Sch.take 10 (Sch.take 11 (Sch.one 12 (Sch.take 13 (Sch.take 14 Sch.done)))))))))))))))) Ann.leaf))))
    Try.func48 (by kernel_rfl) (by kernel_rfl)
    (Eq.mp (by kernel_rfl) h)
/-! breakwater/breakwaterref15.Extract: function 49 -/
def sh49 (x0 x1 x2 x3 : Value) (R : Kt) (w : World) : Prop :=
  M.new 27 (Value.cells x0) (fun t4 w =>
  M.new 27 #[.slice none 0 0, .int .i64 0] (fun t8 w =>
  M.loadA 2 t4 (fun t11 w =>
  M.call Try.prog 25 #[t11, x1] (fun t13 w =>
  M.not t13 (fun t14 w =>
  M.cond t14
  (M.loadA 2 t4 (fun t15 w =>
  M.store 2 t8 t15 (fun _ w =>
  M.loadA 2 t8 (fun r0 w => R (.tuple #[r0, (Value.int IntKind.i64 0), (Value.int IntKind.i64 11)]) w) w) w) w)
  (M.bin .lss x3 (Value.int IntKind.i64 1) (fun t17 w =>
  M.gd t17 false (fun k w => k x3 w) (fun t19 w =>
  M.gd t17 false (fun k w => M.loadA 2 t4 k w) (fun t20 w =>
  M.gd t17 false (fun k w => k x1 w) (fun t21 w =>
  M.gd t17 false (fun k w => M.call Try.prog 31 #[t20, t21] k w) (fun t22 w =>
  M.gd t17 false (fun k w => M.bin .gtr t19 t22 k w) (fun t23 w =>
  M.pick t17 (Value.bool true) t23 (fun t24 w =>
  M.gd t24 false (fun k w => k x2 w) (fun t26 w =>
  M.gd t24 false (fun k w => M.bin .lss t26 (Value.int IntKind.i64 0) k w) (fun t27 w =>
  M.pick t24 (Value.bool true) t27 (fun t28 w =>
  M.gd t28 false (fun k w => k x2 w) (fun t30 w =>
  M.gd t28 false (fun k w => M.loadA 2 t4 k w) (fun t31 w =>
  M.gd t28 false (fun k w => k x1 w) (fun t32 w =>
  M.gd t28 false (fun k w => M.call Try.prog 31 #[t31, t32] k w) (fun t33 w =>
  M.gd t28 false (fun k w => k x3 w) (fun t34 w =>
  M.gd t28 false (fun k w => M.bin .sub t33 t34 k w) (fun t35 w =>
  M.gd t28 false (fun k w => M.bin .gtr t30 t35 k w) (fun t36 w =>
  M.pick t28 (Value.bool true) t36 (fun t37 w =>
  M.cond t37
  (M.loadA 2 t4 (fun t38 w =>
  M.store 2 t8 t38 (fun _ w =>
  M.loadA 2 t8 (fun r0 w => R (.tuple #[r0, (Value.int IntKind.i64 0), (Value.int IntKind.i64 2)]) w) w) w) w)
  (M.loadA 2 t4 (fun t39 w =>
  pureW Try.prog (Instr.build 55 #[(0, (Value.int IntKind.i64 23)), (1, x3), (2, x1), (3, x2)]) (fun t43 w =>
  M.call Try.prog 65 #[t39, t43] (fun t44 w =>
  M.extract 0 t44 (fun t45 w =>
  M.extract 1 t44 (fun t46 w =>
  M.extract 2 t44 (fun t47 w =>
  M.store 2 t8 t45 (fun _ w =>
  M.loadA 2 t8 (fun r0 w => R (.tuple #[r0, t46, t47]) w) w) w) w) w) w) w) w) w)) w) w) w) w) w) w) w) w) w) w) w) w) w) w) w) w) w) w)) w) w) w) w) w
theorem ok49 (x0 x1 x2 x3 : Value) (R : Kt) (w : World) (h : sh49 x0 x1 x2 x3 R w) : Ret Try.prog 49 #[x0, x1, x2, x3] w R :=
  ret_mk <| calls_of_comp mixed (c := Try.f49.body.getD .skip) (args := [x0, x1, x2, x3]) (rs := [(ResultVar.cell 8 27), (ResultVar.tmp 9), (ResultVar.tmp 10)]) (Ann.seq Ann.text (Ann.seq (Ann.seq Ann.text (Ann.cond (Ann.seq Ann.text Ann.leaf) Ann.leaf)) (Ann.seq (Ann.seq Ann.text (Ann.cond (Ann.seq Ann.text Ann.leaf) Ann.leaf)) (Ann.seq Ann.text Ann.leaf))))
    Try.func49 (by kernel_rfl) (by kernel_rfl)
    (Eq.mp (by kernel_rfl) h)
/-! breakwater/breakwaterref15.Concat: function 50 -/
def sh50 (x0 x1 x2 : Value) (R : Kt) (w : World) : Prop :=
  M.new 27 (Value.cells x0) (fun t3 w =>
  M.new 27 #[.slice none 0 0, .int .i64 0] (fun t6 w =>
  M.loadA 2 t3 (fun t9 w =>
  M.call Try.prog 25 #[t9, x1] (fun t11 w =>
  M.not t11 (fun t12 w =>
  M.gd t12 false (fun k w => M.loadA 2 t3 k w) (fun t14 w =>
  M.gd t12 false (fun k w => k x2 w) (fun t15 w =>
  M.gd t12 false (fun k w => M.call Try.prog 25 #[t14, t15] k w) (fun t16 w =>
  M.gd t12 false (fun k w => M.not t16 k w) (fun t17 w =>
  M.pick t12 (Value.bool true) t17 (fun t18 w =>
  M.cond t18
  (M.loadA 2 t3 (fun t19 w =>
  M.store 2 t6 t19 (fun _ w =>
  M.loadA 2 t6 (fun r0 w => R (.tuple #[r0, (Value.int IntKind.i64 0), (Value.int IntKind.i64 11)]) w) w) w) w)
  (M.draw (fun w =>
  M.loadA 2 t3 (fun t20 w =>
  M.loadA 2 t3 (fun t23 w =>
  M.call Try.prog 31 #[t20, x1] (fun t22 w =>
  ((M.loadA 2 t3 (fun v' _ => v' = t23) w) ∧ M.call Try.prog 31 #[t23, x2] (fun t25 w =>
  M.bin .add t22 t25 (fun t26 w =>
  M.bin .gtr t26 (Value.int IntKind.i64 64) (fun t27 w =>
  M.cond t27
  (M.loadA 2 t3 (fun t28 w =>
  M.store 2 t6 t28 (fun _ w =>
  M.loadA 2 t6 (fun r0 w => R (.tuple #[r0, (Value.int IntKind.i64 0), (Value.int IntKind.i64 2)]) w) w) w) w)
  (M.draw (fun w =>
  M.loadA 2 t3 (fun t29 w =>
  M.loadA 2 t3 (fun t30 w =>
  M.loadA 2 t3 (fun t33 w =>
  M.call Try.prog 31 #[t30, x1] (fun t32 w =>
  ((M.loadA 2 t3 (fun v' _ => v' = t33) w) ∧ ((M.loadA 2 t3 (fun v' _ => v' = t29) w) ∧ M.call Try.prog 31 #[t33, x2] (fun t35 w =>
  ((M.loadA 2 t3 (fun v' _ => v' = t29) w) ∧ M.bin .add t32 t35 (fun t36 w =>
  pureW Try.prog (Instr.build 55 #[(0, (Value.int IntKind.i64 24)), (1, t36), (2, x1), (3, x2)]) (fun t39 w =>
  M.call Try.prog 65 #[t29, t39] (fun t40 w =>
  M.extract 0 t40 (fun t41 w =>
  M.extract 1 t40 (fun t42 w =>
  M.extract 2 t40 (fun t43 w =>
  M.store 2 t6 t41 (fun _ w =>
  M.loadA 2 t6 (fun r0 w => R (.tuple #[r0, t42, t43]) w) w) w) w) w) w) w) w) w)) w))) w) w) w) w) w)) w) w) w)) w) w) w) w)) w) w) w) w) w) w) w) w) w) w
theorem ok50 (x0 x1 x2 : Value) (R : Kt) (w : World) (h : sh50 x0 x1 x2 R w) : Ret Try.prog 50 #[x0, x1, x2] w R :=
  ret_mk <| calls_of_comp mixed (c := Try.f50.body.getD .skip) (args := [x0, x1, x2]) (rs := [(ResultVar.cell 6 27), (ResultVar.tmp 7), (ResultVar.tmp 8)]) (Ann.seq Ann.text (Ann.seq (Ann.seq Ann.text (Ann.cond (Ann.seq Ann.text Ann.leaf) Ann.leaf)) (Ann.seq (Ann.seq (Ann.draw (Sch.take 0 (Sch.take 1 (Sch.take 3 (Sch.take 4 (Sch.one 2 (Sch.one 5 (Sch.take 6 (Sch.take 7 Sch.done))))))))) (Ann.cond (Ann.seq Ann.text Ann.leaf) Ann.leaf)) (Ann.seq (Ann.draw (Sch.take 0 (Sch.take 1 (Sch.take 2 (Sch.take 4 (Sch.take 5 (Sch.take 8 (Sch.take 9 (Sch.one 3 (Sch.one 6 (Sch.take 7 (Sch.take 10 (Sch.one 11 (Sch.take 12 (Sch.take 13 (Sch.take 14 (Sch.one 15 (Sch.take 16 (Sch.take 17 Sch.done))))))))))))))))))) Ann.leaf))))
    Try.func50 (by kernel_rfl) (by kernel_rfl)
    (Eq.mp (by kernel_rfl) h)
/-! breakwater/breakwaterref15.Extend: function 51 -/
def sh51 (x0 x1 x2 x3 : Value) (R : Kt) (w : World) : Prop :=
  M.new 27 (Value.cells x0) (fun t4 w =>
  M.new 27 #[.slice none 0 0, .int .i64 0] (fun t8 w =>
  M.loadA 2 t4 (fun t11 w =>
  M.call Try.prog 25 #[t11, x1] (fun t13 w =>
  M.not t13 (fun t14 w =>
  M.cond t14
  (M.loadA 2 t4 (fun t15 w =>
  M.store 2 t8 t15 (fun _ w =>
  M.loadA 2 t8 (fun r0 w => R (.tuple #[r0, (Value.int IntKind.i64 0), (Value.int IntKind.i64 11)]) w) w) w) w)
  (M.loadA 2 t4 (fun t17 w =>
  M.call Try.prog 31 #[t17, x1] (fun t19 w =>
  M.bin .lss x2 t19 (fun t20 w =>
  M.gd t20 false (fun k w => k x2 w) (fun t22 w =>
  M.gd t20 false (fun k w => M.bin .gtr t22 (Value.int IntKind.i64 64) k w) (fun t23 w =>
  M.pick t20 (Value.bool true) t23 (fun t24 w =>
  M.cond t24
  (M.loadA 2 t4 (fun t25 w =>
  M.store 2 t8 t25 (fun _ w =>
  M.loadA 2 t8 (fun r0 w => R (.tuple #[r0, (Value.int IntKind.i64 0), (Value.int IntKind.i64 2)]) w) w) w) w)
  (M.loadA 2 t4 (fun t27 w =>
  M.call Try.prog 31 #[t27, x1] (fun t29 w =>
  M.bin .eql x2 t29 (fun t30 w =>
  M.cond t30
  (M.loadA 2 t4 (fun t31 w =>
  M.store 2 t8 t31 (fun _ w =>
  M.loadA 2 t8 (fun r0 w => R (.tuple #[r0, x1, (Value.int IntKind.i64 0)]) w) w) w) w)
  (M.cond x3
  (M.loadA 2 t4 (fun t34 w =>
  pureW Try.prog (Instr.build 55 #[(0, (Value.int IntKind.i64 26)), (1, x2), (2, x1)]) (fun t37 w =>
  M.call Try.prog 65 #[t34, t37] (fun t38 w =>
  M.extract 0 t38 (fun t39 w =>
  M.extract 1 t38 (fun t40 w =>
  M.extract 2 t38 (fun t41 w =>
  M.store 2 t8 t39 (fun _ w =>
  M.loadA 2 t8 (fun r0 w => R (.tuple #[r0, t40, t41]) w) w) w) w) w) w) w) w) w)
  (M.loadA 2 t4 (fun t42 w =>
  pureW Try.prog (Instr.build 55 #[(0, (Value.int IntKind.i64 25)), (1, x2), (2, x1)]) (fun t45 w =>
  M.call Try.prog 65 #[t42, t45] (fun t46 w =>
  M.extract 0 t46 (fun t47 w =>
  M.extract 1 t46 (fun t48 w =>
  M.extract 2 t46 (fun t49 w =>
  M.store 2 t8 t47 (fun _ w =>
  M.loadA 2 t8 (fun r0 w => R (.tuple #[r0, t48, t49]) w) w) w) w) w) w) w) w) w))) w) w) w)) w) w) w) w) w) w)) w) w) w) w) w
theorem ok51 (x0 x1 x2 x3 : Value) (R : Kt) (w : World) (h : sh51 x0 x1 x2 x3 R w) : Ret Try.prog 51 #[x0, x1, x2, x3] w R :=
  ret_mk <| calls_of_comp mixed (c := Try.f51.body.getD .skip) (args := [x0, x1, x2, x3]) (rs := [(ResultVar.cell 8 27), (ResultVar.tmp 9), (ResultVar.tmp 10)]) (Ann.seq Ann.text (Ann.seq (Ann.seq Ann.text (Ann.cond (Ann.seq Ann.text Ann.leaf) Ann.leaf)) (Ann.seq (Ann.seq Ann.text (Ann.cond (Ann.seq Ann.text Ann.leaf) Ann.leaf)) (Ann.seq (Ann.seq Ann.text (Ann.cond (Ann.seq Ann.text Ann.leaf) Ann.leaf)) (Ann.seq (Ann.seq Ann.text (Ann.cond (Ann.seq Ann.text Ann.leaf) Ann.leaf)) (Ann.seq Ann.text Ann.leaf))))))
    Try.func51 (by kernel_rfl) (by kernel_rfl)
    (Eq.mp (by kernel_rfl) h)

theorem eqNd (x y : Nd) (w : World) : (binOp .eql 55 (encN x) (encN y)).run Try.prog w = .ok (.bool (decide (x = y))) w := by
  have u3 := Try.underlying3
  have a3 := Try.isAgg3
  have z3 := Try.sizeOf3
  have u9 := Try.underlying44
  have a9 := Try.isAgg44
  have z9 := Try.sizeOf44
  have hS : Try.prog.underlying 55 = some (.struct (Try.prog.fieldsOf 55)) := by kernel_rfl
  have hp : Try.prog.stoodInHeld 55 = false := by kernel_rfl
  rw [run_eql_struct, show (10000 : Nat) = 9999 + 1 from rfl, run_equalIn_agg w 9999 55 _ _ hS hp]
  simp only [Program.fieldsOf, Try.underlying55, Nd.cells]
  obtain ⟨x1, x2, x3, x4, x5, x6⟩ := x
  obtain ⟨y1, y2, y3, y4, y5, y6⟩ := y
  go_simp
  by_cases h6 : x6 = y6
  · subst h6
    by_cases h1 : x1 = y1 <;> by_cases h2 : x2 = y2 <;> by_cases h3 : x3 = y3 <;> by_cases h4 : x4 = y4 <;> by_cases h5 : x5 = y5 <;> simp [h1, h2, h3, h4, h5]
  · have h6' : ¬ (x6.toNat : Int) = (y6.toNat : Int) := fun e => h6 (vw_inj.1 e)
    by_cases h1 : x1 = y1 <;> by_cases h2 : x2 = y2 <;> by_cases h3 : x3 = y3 <;> by_cases h4 : x4 = y4 <;> by_cases h5 : x5 = y5 <;> simp [h1, h2, h3, h4, h5, h6, h6']
theorem M.eqNd_i {k : Kt} {w : World} {o1 o2 : Operand} {x y : Nd} (h : k (.bool (decide (x = y))) w) :
    M.val Try.prog (do eqGuard .eql 55 o1 o2 (encN x) (encN y); binOp .eql 55 (encN x) (encN y)) k w := by
  refine M.val_i (v := .bool (decide (x = y))) (w' := w) ?_ h
  have hm : Try.prog.eqGuardType Try.prog.depth 55 = false := by kernel_rfl
  rw [Sem.run_bind, run_eqGuard_agg w .eql _ o1 o2 _ _ hm]
  exact eqNd x y w
/-- The document's terms. -/
def RD (w : World) (D : Nat → Prop) (v : Value) (N : List Nd) (most : Int) : Prop := ∃ A c, v = .agg ⟨[.slice A N.length c, vi most]⟩ ∧ Row w D A (NL N)
theorem RD.keep {w w' : World} {D S : Nat → Prop} {v : Value} {N : List Nd} {most : Int} (h : RD w D v N most) (k : Keep w w' S) (hs : ∀ b, b < w.heap.size → D b → ¬ S b) : RD w' D v N most := by
  obtain ⟨A, c, h1, h2⟩ := h
  exact ⟨A, c, h1, h2.keep k hs⟩
theorem RD.mono {w : World} {D D' : Nat → Prop} {v : Value} {N : List Nd} {most : Int} (h : RD w D v N most) (hd : ∀ b, b < w.heap.size → D b → D' b) : RD w D' v N most := by
  obtain ⟨A, c, h1, h2⟩ := h
  exact ⟨A, c, h1, h2.mono hd⟩
def RAsk (w : World) (D : Nat → Prop) (most : Int) (res : List Nd × Int × Int) (r : Value) (w' : World) : Prop :=
  ∃ d, r = .tuple #[d, vi res.2.1, vi res.2.2] ∧ RD w' (fun b => D b ∨ w.heap.size ≤ b) d res.1 most ∧ Keep w w' No
theorem RAsk.from {w w1 : World} {D : Nat → Prop} {most : Int} {res : List Nd × Int × Int} {r : Value} {w' : World} (k : Keep w w1 No) (h : RAsk w1 D most res r w') : RAsk w D most res r w' := by
  obtain ⟨d, h1, h2, h3⟩ := h
  have := k.size
  exact ⟨d, h1, h2.mono (fun b _ h => h.imp id (fun h => by omega)), k.trans h3 (fun _ _ h => h)⟩
section
variable {w : World} {D : Nat → Prop} {v : Value} {N : List Nd} {most : Int}
theorem rback {R : Kt} {p3 p6 : Nat} {l : List Value} {x y : Value} (b3 : Blk w p3 l) (b6 : Blk w p6 [x, y]) (hl : l.length = 2) (ho : ∀ v ∈ l, v.oneCell' = true) (hR : ∀ w', Keep w w' (· = p6) → R (.agg ⟨l⟩) w') :
    M.loadA 2 (ptr p3) (fun t w => M.store 2 (ptr p6) t (fun _ w => M.loadA 2 (ptr p6) (fun r0 w => R r0 w) w) w) w := by
  refine M.loadAll_i b3 hl ?_
  refine M.storeAll_i b6 hl rfl ho (fun w1 b1 k1 s1 => ?_)
  exact M.loadAll_i b1 hl (hR w1 k1)
theorem rout {R : Kt} {p6 : Nat} {l : List Value} {x y : Value} (b6 : Blk w p6 [x, y]) (hl : l.length = 2) (ho : ∀ v ∈ l, v.oneCell' = true) (hR : ∀ w', Keep w w' (· = p6) → R (.agg ⟨l⟩) w') :
    M.store 2 (ptr p6) (.agg ⟨l⟩) (fun _ w => M.loadA 2 (ptr p6) (fun r0 w => R r0 w) w) w := by
  refine M.storeAll_i b6 hl rfl ho (fun w1 b1 k1 s1 => ?_)
  exact M.loadAll_i b1 hl (hR w1 k1)
theorem two_one {A : Option Addr} {n c : Nat} {m : Int} : ∀ v ∈ [Value.slice A n c, vi m], v.oneCell' = true := by
  intro v hv
  simp only [List.mem_cons, List.not_mem_nil, or_false] at hv
  rcases hv with rfl | rfl <;> rfl
theorem ris_ret (h : RD w D v N most) (i : Int) : Ret Try.prog 25 #[v, vi i] w (fun r w' => r = .bool (isN N i) ∧ Keep w w' No) := by
  obtain ⟨A, c, rfl, hr⟩ := h
  refine ok25 _ _ _ _ ?_
  unfold sh25
  refine M.new_i (l := [.slice A N.length c, vi most]) (fun w1 b1 k1 s1 => ?_)
  by_cases h0 : 0 ≤ i
  · (repeat (first|refine ja ?_|refine jb ?_|refine jc ?_|refine jd ?_|refine je ?_|refine jf ?_|refine jg ?_|refine jh ?_|refine ji ?_|refine jj ?_|refine jk ?_|refine jl ?_|refine jm ?_|refine jn ?_|refine jo ?_|refine jp ?_|refine jq ?_|refine jr ?_|refine js ?_|refine jt ?_|refine ju ?_|refine jv ?_|refine jw ?_|refine jx ?_|refine jy ?_|refine jz ?_|refine jA ?_|refine jB ?_|refine jC ?_|refine jD ?_|refine jE ?_|refine jF ?_|refine jG ?_|refine jH ?_|refine jI ?_|refine jJ ?_|refine jK ?_|refine jL ?_|refine jM (by assumption) ?_|refine jN (by assumption) rfl ?_|refine jO (by assumption) ?_|refine jP (by assumption) rfl ?_|refine jQ ?_|refine jR ?_|refine jS ?_|refine jT ?_|refine jU (by assumption) rfl ?_))
    refine M.lss_i ?_
    (repeat (first|refine ja ?_|refine jb ?_|refine jc ?_|refine jd ?_|refine je ?_|refine jf ?_|refine jg ?_|refine jh ?_|refine ji ?_|refine jj ?_|refine jk ?_|refine jl ?_|refine jm ?_|refine jn ?_|refine jo ?_|refine jp ?_|refine jq ?_|refine jr ?_|refine js ?_|refine jt ?_|refine ju ?_|refine jv ?_|refine jw ?_|refine jx ?_|refine jy ?_|refine jz ?_|refine jA ?_|refine jB ?_|refine jC ?_|refine jD ?_|refine jE ?_|refine jF ?_|refine jG ?_|refine jH ?_|refine jI ?_|refine jJ ?_|refine jK ?_|refine jL ?_|refine jM (by assumption) ?_|refine jN (by assumption) rfl ?_|refine jO (by assumption) ?_|refine jP (by assumption) rfl ?_|refine jQ ?_|refine jR ?_|refine jS ?_|refine jT ?_|refine jU (by assumption) rfl ?_))
    exact ⟨by simp [isN, h0], k1⟩
  · (repeat (first|refine ja ?_|refine jb ?_|refine jc ?_|refine jd ?_|refine je ?_|refine jf ?_|refine jg ?_|refine jh ?_|refine ji ?_|refine jj ?_|refine jk ?_|refine jl ?_|refine jm ?_|refine jn ?_|refine jo ?_|refine jp ?_|refine jq ?_|refine jr ?_|refine js ?_|refine jt ?_|refine ju ?_|refine jv ?_|refine jw ?_|refine jx ?_|refine jy ?_|refine jz ?_|refine jA ?_|refine jB ?_|refine jC ?_|refine jD ?_|refine jE ?_|refine jF ?_|refine jG ?_|refine jH ?_|refine jI ?_|refine jJ ?_|refine jK ?_|refine jL ?_|refine jM (by assumption) ?_|refine jN (by assumption) rfl ?_|refine jO (by assumption) ?_|refine jP (by assumption) rfl ?_|refine jQ ?_|refine jR ?_|refine jS ?_|refine jT ?_|refine jU (by assumption) rfl ?_))
    exact ⟨by simp [isN, h0], k1⟩
theorem rwidth_ret (h : RD w D v N most) (i : Int) : Ret Try.prog 31 #[v, vi i] w (fun r w' => r = vi (wdN N i) ∧ Keep w w' No) := by
  obtain ⟨A, c, rfl, hr⟩ := id h
  refine ok31 _ _ _ _ ?_
  unfold sh31
  refine M.new_i (l := [.slice A N.length c, vi most]) (fun w1 b1 k1 s1 => ?_)
  refine M.loadAll_i b1 rfl ?_
  refine M.call_i (ris_ret (h.keep k1 (fun _ _ _ h => h)) i) ?_; rintro _ w2 ⟨rfl, k2⟩
  have b2 := b1.keep k2 (fun h => h)
  have k12 := k1.trans k2 (fun _ _ h => h)
  refine M.not_i ?_
  cases hi : isN N i with
  | false =>
    (repeat (first|refine ja ?_|refine jb ?_|refine jc ?_|refine jd ?_|refine je ?_|refine jf ?_|refine jg ?_|refine jh ?_|refine ji ?_|refine jj ?_|refine jk ?_|refine jl ?_|refine jm ?_|refine jn ?_|refine jo ?_|refine jp ?_|refine jq ?_|refine jr ?_|refine js ?_|refine jt ?_|refine ju ?_|refine jv ?_|refine jw ?_|refine jx ?_|refine jy ?_|refine jz ?_|refine jA ?_|refine jB ?_|refine jC ?_|refine jD ?_|refine jE ?_|refine jF ?_|refine jG ?_|refine jH ?_|refine jI ?_|refine jJ ?_|refine jK ?_|refine jL ?_|refine jM (by assumption) ?_|refine jN (by assumption) rfl ?_|refine jO (by assumption) ?_|refine jP (by assumption) rfl ?_|refine jQ ?_|refine jR ?_|refine jS ?_|refine jT ?_|refine jU (by assumption) rfl ?_))
    exact ⟨by rw [wdN_none hi], k12⟩
  | true =>
    obtain ⟨j, n, rfl, hj⟩ := isN_get hi
    (repeat (first|refine ja ?_|refine jb ?_|refine jc ?_|refine jd ?_|refine je ?_|refine jf ?_|refine jg ?_|refine jh ?_|refine ji ?_|refine jj ?_|refine jk ?_|refine jl ?_|refine jm ?_|refine jn ?_|refine jo ?_|refine jp ?_|refine jq ?_|refine jr ?_|refine js ?_|refine jt ?_|refine ju ?_|refine jv ?_|refine jw ?_|refine jx ?_|refine jy ?_|refine jz ?_|refine jA ?_|refine jB ?_|refine jC ?_|refine jD ?_|refine jE ?_|refine jF ?_|refine jG ?_|refine jH ?_|refine jI ?_|refine jJ ?_|refine jK ?_|refine jL ?_|refine jM (by assumption) ?_|refine jN (by assumption) rfl ?_|refine jO (by assumption) ?_|refine jP (by assumption) rfl ?_|refine jQ ?_|refine jR ?_|refine jS ?_|refine jT ?_|refine jU (by assumption) rfl ?_))
    refine M.idxN_i (hr.keep k12 (fun _ _ _ h => h)) rfl (by omega) (n := n) (by simpa using hj) (fun bb oo hc => ?_)
    have h1 := hc 1 (vi n.wd) rfl
    (repeat (first|refine ja ?_|refine jb ?_|refine jc ?_|refine jd ?_|refine je ?_|refine jf ?_|refine jg ?_|refine jh ?_|refine ji ?_|refine jj ?_|refine jk ?_|refine jl ?_|refine jm ?_|refine jn ?_|refine jo ?_|refine jp ?_|refine jq ?_|refine jr ?_|refine js ?_|refine jt ?_|refine ju ?_|refine jv ?_|refine jw ?_|refine jx ?_|refine jy ?_|refine jz ?_|refine jA ?_|refine jB ?_|refine jC ?_|refine jD ?_|refine jE ?_|refine jF ?_|refine jG ?_|refine jH ?_|refine jI ?_|refine jJ ?_|refine jK ?_|refine jL ?_|refine jM (by assumption) ?_|refine jN (by assumption) rfl ?_|refine jO (by assumption) ?_|refine jP (by assumption) rfl ?_|refine jQ ?_|refine jR ?_|refine jS ?_|refine jT ?_|refine jU (by assumption) rfl ?_))
    exact ⟨by rw [wdN_at hj], k12⟩
theorem idxOf_at {i : Nat} {n : Nd} (h : N[i]? = some n) (hno : ∀ (j : Nat) m, j < i → N[j]? = some m → m ≠ n) : N.idxOf n = i := by
  obtain ⟨hl, he⟩ := List.getElem?_eq_some_iff.1 h
  unfold List.idxOf
  rw [List.findIdx_eq hl]
  refine ⟨by rw [he]; simp, fun j hj => ?_⟩
  have := hno j _ hj (List.getElem?_eq_getElem (by omega))
  simpa using this
set_option maxHeartbeats 1000000 in
theorem rmade_ret (h : RD w D v N most) (hN : N.length ≤ 1000000) (n : Nd) :
    Ret Try.prog 65 #[v, encN n] w (RAsk w D most (madeN most N n)) := by
  obtain ⟨A, c, rfl, hr⟩ := id h
  refine ok65 _ _ _ _ ?_
  unfold sh65
  refine M.new_i (l := [.slice A N.length c, vi most]) (fun w1 b1 k1 s1 => ?_)
  refine M.new_i (l := n.cells) (fun w2 b2 k2 s2 => ?_)
  refine M.new_i (l := [.slice none 0 0, vi 0]) (fun w3 b3 k3 s3 => ?_)
  have b1 := (b1.keep k2 (fun h => h)).keep k3 (fun h => h)
  have b2 := b2.keep k3 (fun h => h)
  have k13 := (k1.trans k2 (fun _ _ h => h)).trans k3 (fun _ _ h => h)
  have hr3 := hr.keep k13 (fun _ _ _ h => h)
  refine M.loop_i (σ := Nat) (fun i vals w' => vals = [vi i] ∧ i ≤ N.length ∧ (∀ (j : Nat) m, j < i → N[j]? = some m → m ≠ n) ∧ Keep w3 w' No) (fun i => N.length - i) 0 ⟨rfl, by omega, by simp, Keep.refl _ _⟩ ?_
  rintro i vals w4 K ⟨rfl, hi, hno, k4⟩ hK _
  simp only [List.getD_cons_zero, List.getD_cons_succ]
  have c1 := b1.keep k4 (fun h => h)
  have c2 := b2.keep k4 (fun h => h)
  have c3 := b3.keep k4 (fun h => h)
  have hr4 := hr3.keep k4 (fun _ _ _ h => h)
  have k04 := k13.trans k4 (fun _ _ h => h)
  by_cases hlt : i < N.length
  · obtain ⟨m, hm⟩ : ∃ m, N[i]? = some m := ⟨_, List.getElem?_eq_getElem hlt⟩
    have kd := Keep.drew w4 No
    have d1 := c1.keep kd (fun h => h)
    have d2 := c2.keep kd (fun h => h)
    have d3 := c3.keep kd (fun h => h)
    (repeat (first|refine ja ?_|refine jb ?_|refine jc ?_|refine jd ?_|refine je ?_|refine jf ?_|refine jg ?_|refine jh ?_|refine ji ?_|refine jj ?_|refine jk ?_|refine jl ?_|refine jm ?_|refine jn ?_|refine jo ?_|refine jp ?_|refine jq ?_|refine jr ?_|refine js ?_|refine jt ?_|refine ju ?_|refine jv ?_|refine jw ?_|refine jx ?_|refine jy ?_|refine jz ?_|refine jA ?_|refine jB ?_|refine jC ?_|refine jD ?_|refine jE ?_|refine jF ?_|refine jG ?_|refine jH ?_|refine jI ?_|refine jJ ?_|refine jK ?_|refine jL ?_|refine jM (by assumption) ?_|refine jN (by assumption) rfl ?_|refine jO (by assumption) ?_|refine jP (by assumption) rfl ?_|refine jQ ?_|refine jR ?_|refine jS ?_|refine jT ?_|refine jU (by assumption) rfl ?_))
    refine M.idxN_i (hr4.keep kd (fun _ _ _ h => h)) rfl (by omega) (n := m) (by simpa using hm) (fun bb oo hc => ?_)
    refine M.loadN_i hc ?_
    refine M.loadAll_i d2 rfl ?_
    refine M.eqNd_i ?_
    refine ⟨M.loadB_i d1 rfl rfl, ?_⟩
    refine M.cond_i (fun hmn => ?_) (fun hmn => ?_)
    · subst hmn
      have hidx := idxOf_at hm hno
      have hmem := List.mem_of_getElem? hm
      have q1 := k1.size; have q2 := k2.size
      refine rback d1 d3 rfl two_one (fun w5 k5 => ?_)
      have k05 : Keep w w5 No := (k04.trans kd (fun _ _ h => h)).trans k5 (fun b hb h => by omega)
      have em : madeN most N m = (N, (i : Int), 0) := by
        unfold madeN
        rw [if_pos hmem, hidx]
      rw [em]
      exact ⟨_, rfl, (h.keep k05 (fun _ _ _ h => h)).mono (fun b _ h => Or.inl h), k05⟩
    · have k4d := k4.trans kd (fun _ _ h => h)
      (repeat (first|refine ja ?_|refine jb ?_|refine jc ?_|refine jd ?_|refine je ?_|refine jf ?_|refine jg ?_|refine jh ?_|refine ji ?_|refine jj ?_|refine jk ?_|refine jl ?_|refine jm ?_|refine jn ?_|refine jo ?_|refine jp ?_|refine jq ?_|refine jr ?_|refine js ?_|refine jt ?_|refine ju ?_|refine jv ?_|refine jw ?_|refine jx ?_|refine jy ?_|refine jz ?_|refine jA ?_|refine jB ?_|refine jC ?_|refine jD ?_|refine jE ?_|refine jF ?_|refine jG ?_|refine jH ?_|refine jI ?_|refine jJ ?_|refine jK ?_|refine jL ?_|refine jM (by assumption) ?_|refine jN (by assumption) rfl ?_|refine jO (by assumption) ?_|refine jP (by assumption) rfl ?_|refine jQ ?_|refine jR ?_|refine jS ?_|refine jT ?_|refine jU (by assumption) rfl ?_))
      refine hK (i + 1) _ _ (by omega) ⟨by simp, by omega, fun j x hj hx => ?_, k4d⟩
      by_cases hji : j = i
      · subst hji; rw [hm] at hx; cases hx; exact hmn
      · exact hno j x (by omega) hx
  · have hi : i = N.length := by omega
    subst hi
    have hmem : n ∉ N := fun hm => by
      obtain ⟨j, hj⟩ := List.mem_iff_getElem?.1 hm
      exact hno j n (List.getElem?_eq_some_iff.1 hj).1 hj rfl
    have q1 := k1.size; have q2 := k2.size; have q3 := k3.size; have q4 := k4.size
    (repeat (first|refine ja ?_|refine jb ?_|refine jc ?_|refine jd ?_|refine je ?_|refine jf ?_|refine jg ?_|refine jh ?_|refine ji ?_|refine jj ?_|refine jk ?_|refine jl ?_|refine jm ?_|refine jn ?_|refine jo ?_|refine jp ?_|refine jq ?_|refine jr ?_|refine js ?_|refine jt ?_|refine ju ?_|refine jv ?_|refine jw ?_|refine jx ?_|refine jy ?_|refine jz ?_|refine jA ?_|refine jB ?_|refine jC ?_|refine jD ?_|refine jE ?_|refine jF ?_|refine jG ?_|refine jH ?_|refine jI ?_|refine jJ ?_|refine jK ?_|refine jL ?_|refine jM (by assumption) ?_|refine jN (by assumption) rfl ?_|refine jO (by assumption) ?_|refine jP (by assumption) rfl ?_|refine jQ ?_|refine jR ?_|refine jS ?_|refine jT ?_|refine jU (by assumption) rfl ?_))
    refine M.geq_i ?_
    by_cases hmost : most ≤ (N.length : Int)
    · rw [decide_eq_true hmost]
      have em : madeN most N n = (N, 0, 8) := by
        unfold madeN
        rw [if_neg hmem, if_pos hmost]
      rw [em]
      (repeat (first|refine ja ?_|refine jb ?_|refine jc ?_|refine jd ?_|refine je ?_|refine jf ?_|refine jg ?_|refine jh ?_|refine ji ?_|refine jj ?_|refine jk ?_|refine jl ?_|refine jm ?_|refine jn ?_|refine jo ?_|refine jp ?_|refine jq ?_|refine jr ?_|refine js ?_|refine jt ?_|refine ju ?_|refine jv ?_|refine jw ?_|refine jx ?_|refine jy ?_|refine jz ?_|refine jA ?_|refine jB ?_|refine jC ?_|refine jD ?_|refine jE ?_|refine jF ?_|refine jG ?_|refine jH ?_|refine jI ?_|refine jJ ?_|refine jK ?_|refine jL ?_|refine jM (by assumption) ?_|refine jN (by assumption) rfl ?_|refine jO (by assumption) ?_|refine jP (by assumption) rfl ?_|refine jQ ?_|refine jR ?_|refine jS ?_|refine jT ?_|refine jU (by assumption) rfl ?_))
      refine rback c1 c3 rfl two_one (fun w5 k5 => ?_)
      have k05 : Keep w w5 No := k04.trans k5 (fun b hb h => by omega)
      exact ⟨_, rfl, (h.keep k05 (fun _ _ _ h => h)).mono (fun b _ h => Or.inl h), k05⟩
    · rw [decide_eq_false hmost]
      have em : madeN most N n = (N ++ [n], (N.length : Int), 0) := by
        unfold madeN
        rw [if_neg hmem, if_neg hmost]
      rw [em]
      (repeat (first|refine ja ?_|refine jb ?_|refine jc ?_|refine jd ?_|refine je ?_|refine jf ?_|refine jg ?_|refine jh ?_|refine ji ?_|refine jj ?_|refine jk ?_|refine jl ?_|refine jm ?_|refine jn ?_|refine jo ?_|refine jp ?_|refine jq ?_|refine jr ?_|refine js ?_|refine jt ?_|refine ju ?_|refine jv ?_|refine jw ?_|refine jx ?_|refine jy ?_|refine jz ?_|refine jA ?_|refine jB ?_|refine jC ?_|refine jD ?_|refine jE ?_|refine jF ?_|refine jG ?_|refine jH ?_|refine jI ?_|refine jJ ?_|refine jK ?_|refine jL ?_|refine jM (by assumption) ?_|refine jN (by assumption) rfl ?_|refine jO (by assumption) ?_|refine jP (by assumption) rfl ?_|refine jQ ?_|refine jR ?_|refine jS ?_|refine jT ?_|refine jU (by assumption) rfl ?_))
      refine M.append_i (GC.nil w4 (w4.heap.size ≤ ·) 6) hr4 (NL_len N) (NL_one N) rfl (by omega) (by omega) (fun v5 w5 g5 k5 => ?_)
      have k5 : Keep w4 w5 No := k5.mono (fun b hb h => by omega)
      have d1 := c1.keep k5 (fun h => h)
      have d2 := c2.keep k5 (fun h => h)
      have d3 := c3.keep k5 (fun h => h)
      have g5 := g5.mono (L' := (w4.heap.size ≤ ·)) (fun b _ h => by omega)
      have q5 := k5.size
      refine M.loadAll_i d2 rfl ?_
      refine M.buildSlice_i n.cells (by kernel_rfl) (fun w6 b6 k6 s6 => ?_)
      have g6 := g5.keep k6 (fun _ _ _ h => h)
      have d1 := d1.keep k6 (fun h => h)
      have d3 := d3.keep k6 (fun h => h)
      refine M.append_i g6 (Row.of_blk' (D := fun _ => True) b6 trivial) (m := 1) rfl (cells_one n) rfl (by omega) (by omega) (fun v7 w7 g7 k7 => ?_)
      have g7 := g7.mono (L' := (w4.heap.size ≤ ·)) (fun b _ h => by omega)
      have d1 := d1.keep k7 (fun h => by omega)
      have d3 := d3.keep k7 (fun h => by omega)
      obtain ⟨A7, c7, rfl, hr7, _⟩ := GC.row2 g7 (by omega)
      (repeat (first|refine ja ?_|refine jb ?_|refine jc ?_|refine jd ?_|refine je ?_|refine jf ?_|refine jg ?_|refine jh ?_|refine ji ?_|refine jj ?_|refine jk ?_|refine jl ?_|refine jm ?_|refine jn ?_|refine jo ?_|refine jp ?_|refine jq ?_|refine jr ?_|refine js ?_|refine jt ?_|refine ju ?_|refine jv ?_|refine jw ?_|refine jx ?_|refine jy ?_|refine jz ?_|refine jA ?_|refine jB ?_|refine jC ?_|refine jD ?_|refine jE ?_|refine jF ?_|refine jG ?_|refine jH ?_|refine jI ?_|refine jJ ?_|refine jK ?_|refine jL ?_|refine jM (by assumption) ?_|refine jN (by assumption) rfl ?_|refine jO (by assumption) ?_|refine jP (by assumption) rfl ?_|refine jQ ?_|refine jR ?_|refine jS ?_|refine jT ?_|refine jU (by assumption) rfl ?_))
      refine M.store_i d1 (by simp) rfl (fun w8 b8 k8 s8 => ?_)
      have b8 : Blk w8 w.heap.size [.slice A7 (0 + N.length + 1) c7, vi most] := b8
      have d3 := d3.keep k8 (fun h => by omega)
      have kd := Keep.drew w8 No
      have e1 := b8.keep kd (fun h => h)
      have e3 := d3.keep kd (fun h => h)
      refine M.draw_i ?_
      refine M.loadAll_i e1 rfl ?_
      (repeat (first|refine ja ?_|refine jb ?_|refine jc ?_|refine jd ?_|refine je ?_|refine jf ?_|refine jg ?_|refine jh ?_|refine ji ?_|refine jj ?_|refine jk ?_|refine jl ?_|refine jm ?_|refine jn ?_|refine jo ?_|refine jp ?_|refine jq ?_|refine jr ?_|refine js ?_|refine jt ?_|refine ju ?_|refine jv ?_|refine jw ?_|refine jx ?_|refine jy ?_|refine jz ?_|refine jA ?_|refine jB ?_|refine jC ?_|refine jD ?_|refine jE ?_|refine jF ?_|refine jG ?_|refine jH ?_|refine jI ?_|refine jJ ?_|refine jK ?_|refine jL ?_|refine jM (by assumption) ?_|refine jN (by assumption) rfl ?_|refine jO (by assumption) ?_|refine jP (by assumption) rfl ?_|refine jQ ?_|refine jR ?_|refine jS ?_|refine jT ?_|refine jU (by assumption) rfl ?_))
      refine M.storeAll_i e3 rfl rfl two_one (fun w9 b9 k9 s9 => ?_)
      have e1 := e1.keep k9 (fun h => by omega)
      refine ⟨M.loadB_i e1 rfl rfl, ?_⟩
      have q7 := k7.size
      have q6 := k6.size
      have k08 : Keep w w8 No := (((k04.trans k5 (fun _ _ h => h)).trans k6 (fun _ _ h => h)).trans k7 (fun b hb h => by omega)).trans k8 (fun b hb h => by omega)
      have k09 : Keep w w9 No := (k08.trans kd (fun _ _ h => h)).trans k9 (fun b hb h => by omega)
      have hr9 := (((hr7.keep k8 (fun b hb h1 h2 => by omega)).keep kd (fun _ _ _ h => h)).keep k9 (fun b hb h1 h2 => by omega)).mono (D' := fun b => D b ∨ w.heap.size ≤ b) (fun b hb h => .inr (by omega))
      refine M.loadAll_i b9 rfl ⟨_, ?_, ⟨A7, c7, rfl, ?_⟩, k09⟩
      · rw [show (0 + N.length + 1) = (N ++ [n]).length by simp, show (((N ++ [n]).length : Nat) : Int) - 1 = (N.length : Int) by rw [List.length_append, List.length_singleton]; omega]
      · rw [NL_snoc]
        simpa using hr9
end
end Go.Proofs.Ythkkjjbjpbgcpaa
