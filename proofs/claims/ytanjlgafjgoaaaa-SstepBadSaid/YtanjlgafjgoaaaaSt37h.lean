import Derived.Test.YtanjlgafjgoaaaaSt37g
namespace Go.Proofs.Ytanjlgafjgoaaaa
open Go.Mw
set_option linter.unusedVariables false
set_option linter.unusedSimpArgs false
set_option maxRecDepth 100000
attribute [local irreducible] M.val M.unit M.next M.pick M.new M.nilCheck M.load1 M.loadA M.store M.fieldAddr M.indexSl M.indexArr M.slice M.makeSlice M.buildSlice M.len M.lenS M.cap M.append M.extract M.conv M.not M.neg M.bin M.shift M.eqB M.eqNil M.scat M.call M.callv M.gd M.share M.cond M.loop M.draw pureW readW Ret
/-! (*breakwater/sstep.stepper).flush: function 38 -/
def sh38 (x0 : Value) (R : Kt) (w : World) : Prop :=
  M.nilCheck x0 (fun t6 w =>
  M.fieldAddr 1 t6 (fun t7 w =>
  M.fieldAddr 15 t7 (fun t8 w =>
  M.fieldAddr 0 t8 (fun t9 w =>
  M.load1 t9 (fun t10 w =>
  M.call Try.prog 58 #[t10] (fun t11 w =>
  pureW Try.prog (Instr.build 37 #[(0, t11)]) (fun t12 w =>
  M.new 37 #[.slice none 0 0, .slice none 0 0, .int .i64 0] (fun t2 w =>
  M.store 3 t2 t12 (fun _ w =>
  M.nilCheck x0 (fun t14 w =>
  M.fieldAddr 1 t14 (fun t15 w =>
  M.fieldAddr 15 t15 (fun t16 w =>
  M.fieldAddr 1 t16 (fun t17 w =>
  M.load1 t17 (fun t18 w =>
  M.len t18 (fun t19 w =>
  M.loop [(Value.int IntKind.i64 0)] (fun s1 K1 w => ∀ _ : List Value,
  M.bin .lss (s1.getD 0 undef) t19 (fun t21 w =>
  M.cond t21
  (M.share (fun K2 w =>
  M.indexSl 3 t18 (s1.getD 0 undef) (fun t22 w =>
  M.loadA 3 t22 (fun t23 w =>
  M.new 72 #[.int .i64 0, .int .i64 0, .int .i64 0] (fun t4 w =>
  M.store 3 t4 t23 (fun _ w =>
  M.fieldAddr 0 t4 (fun t24 w =>
  M.load1 t24 (fun t25 w =>
  M.bin .geq t25 (Value.int IntKind.i64 0) (fun t26 w =>
  M.gd t26 true (fun k w => M.fieldAddr 0 t4 k w) (fun t28 w =>
  M.gd t26 true (fun k w => M.load1 t28 k w) (fun t29 w =>
  M.gd t26 true (fun k w => M.fieldAddr 0 t2 k w) (fun t30 w =>
  M.gd t26 true (fun k w => M.load1 t30 k w) (fun t31 w =>
  M.gd t26 true (fun k w => M.len t31 k w) (fun t32 w =>
  M.gd t26 true (fun k w => M.bin .lss t29 t32 k w) (fun t33 w =>
  M.pick t26 t33 (Value.bool false) (fun t34 w =>
  M.cond t34
  (M.fieldAddr 0 t2 (fun t35 w =>
  M.load1 t35 (fun t36 w =>
  M.fieldAddr 0 t4 (fun t37 w =>
  M.load1 t37 (fun t38 w =>
  M.fieldAddr 1 t4 (fun t39 w =>
  M.load1 t39 (fun t40 w =>
  M.indexSl 1 t36 t38 (fun t41 w =>
  M.store 1 t41 t40 (fun _ w =>
  K2 [] w) w) w) w) w) w) w) w) w)
  (K2 [] w)) w) w) w) w) w) w) w) w) w) w) w) w) w) w) (fun s2 w => ∀ _ : List Value,
  M.bin .add (s1.getD 0 undef) (Value.int IntKind.i64 1) (fun t42 w =>
  K1 [t42] w) w) w)
  (M.loadA 3 t2 (fun t45 w =>
  M.call Try.prog 63 #[x0, t45] (fun t46 w =>
  M.call Try.prog 25 #[x0, t46, (Value.int IntKind.i64 (-1))] (fun t47 w =>
  R (.tuple #[]) w) w) w) w)) w) w) w) w) w) w) w) w) w) w) w) w) w) w) w) w) w
theorem ok38 (x0 : Value) (R : Kt) (w : World) (h : sh38 x0 R w) : Ret Try.prog 38 #[x0] w R :=
  ret_mk <| calls_of_comp mixed (c := Try.f38.body.getD .skip) (args := [x0]) (rs := []) (Ann.seq Ann.text (Ann.seq (Ann.seq Ann.text (Ann.block (Ann.loop [20] [4, 21, 22, 23, 24, 25, 26, 27, 28, 29, 30, 31, 32, 33, 34, 35, 36, 37, 38, 39, 40, 41, 42] (Ann.seq Ann.text (Ann.seq (Ann.cond Ann.leaf Ann.leaf) (Ann.seq (Ann.jblock [] [4, 22, 23, 24, 25, 26, 27, 28, 29, 30, 31, 32, 33, 34, 35, 36, 37, 38, 39, 40, 41] (Ann.seq Ann.text (Ann.seq Ann.text (Ann.cond Ann.text Ann.leaf)))) Ann.text)))))) Ann.text))
    Try.func38 (by kernel_rfl) (by kernel_rfl)
    (Eq.mp (by kernel_rfl) h)
/-! (*breakwater/sstep.stepper).barrier: function 39 -/
def sh39 (x0 : Value) (R : Kt) (w : World) : Prop :=
  M.nilCheck x0 (fun t4 w =>
  M.fieldAddr 1 t4 (fun t5 w =>
  M.fieldAddr 15 t5 (fun t6 w =>
  M.loadA 3 t6 (fun t7 w =>
  M.new 37 #[.slice none 0 0, .slice none 0 0, .int .i64 0] (fun t2 w =>
  M.store 3 t2 t7 (fun _ w =>
  M.share (fun K1 w =>
  M.fieldAddr 1 t2 (fun t8 w =>
  M.load1 t8 (fun t9 w =>
  M.call Try.prog 64 #[t9, (.func (Fn.func 65) #[] #[t2])] (fun t11 w =>
  M.cond t11
  (M.fieldAddr 2 t2 (fun t12 w =>
  M.load1 t12 (fun t13 w =>
  M.bin .add t13 (Value.int IntKind.i64 1) (fun t14 w =>
  M.fieldAddr 2 t2 (fun t15 w =>
  M.store 1 t15 t14 (fun _ w =>
  K1 [] w) w) w) w) w) w)
  (K1 [] w)) w) w) w) (fun s1 w => ∀ _ : List Value,
  M.loadA 3 t2 (fun t18 w =>
  M.call Try.prog 63 #[x0, t18] (fun t19 w =>
  M.call Try.prog 25 #[x0, t19, (Value.int IntKind.i64 (-1))] (fun t20 w =>
  R (.tuple #[]) w) w) w) w) w) w) w) w) w) w) w
theorem ok39 (x0 : Value) (R : Kt) (w : World) (h : sh39 x0 R w) : Ret Try.prog 39 #[x0] w R :=
  ret_mk <| calls_of_comp mixed (c := Try.f39.body.getD .skip) (args := [x0]) (rs := []) (Ann.seq Ann.text (Ann.join [] [8, 9, 10, 11, 12, 13, 14, 15] (Ann.seq Ann.text (Ann.cond Ann.text Ann.leaf)) Ann.text))
    Try.func39 (by kernel_rfl) (by kernel_rfl)
    (Eq.mp (by kernel_rfl) h)
/-! slices.ContainsFunc[[]breakwater/api.SymPend,breakwater/api.SymPend]: function 64 -/
def sh64 (x0 x1 : Value) (R : Kt) (w : World) : Prop :=
  M.call Try.prog 76 #[x0, x1] (fun t7 w =>
  M.bin .geq t7 (Value.int IntKind.i64 0) (fun t8 w =>
  R t8 w) w) w
theorem ok64 (x0 x1 : Value) (R : Kt) (w : World) (h : sh64 x0 x1 R w) : Ret Try.prog 64 #[x0, x1] w R :=
  ret_mk <| calls_of_comp mixed (c := Try.f64.body.getD .skip) (args := [x0, x1]) (rs := [(ResultVar.tmp 4)]) (Ann.seq Ann.text (Ann.seq Ann.text Ann.leaf))
    Try.func64 (by kernel_rfl) (by kernel_rfl)
    (Eq.mp (by kernel_rfl) h)
/-! (*breakwater/sstep.stepper).barrier$1: function 65 -/
def sh65 (x0 x1 : Value) (R : Kt) (w : World) : Prop :=
  M.new 72 (Value.cells x0) (fun t2 w =>
  M.fieldAddr 2 t2 (fun t4 w =>
  M.load1 t4 (fun t5 w =>
  M.fieldAddr 2 x1 (fun t6 w =>
  M.load1 t6 (fun t7 w =>
  M.bin .eql t5 t7 (fun t8 w =>
  R t8 w) w) w) w) w) w) w
theorem ok65 (x0 x1 : Value) (R : Kt) (w : World) (h : sh65 x0 x1 R w) : Ret Try.prog 65 #[x0, x1] w R :=
  ret_mk <| calls_of_comp mixed (c := Try.f65.body.getD .skip) (args := [x0, x1]) (rs := [(ResultVar.tmp 3)]) (Ann.seq Ann.text (Ann.seq Ann.text Ann.leaf))
    Try.func65 (by kernel_rfl) (by kernel_rfl)
    (Eq.mp (by kernel_rfl) h)
/-! slices.IndexFunc[[]breakwater/api.SymPend,breakwater/api.SymPend]: function 76 -/
def sh76 (x0 x1 : Value) (R : Kt) (w : World) : Prop :=
  M.len x0 (fun t7 w =>
  M.loop [(Value.int IntKind.i64 0)] (fun s1 K1 w => ∀ _ : List Value,
  M.bin .lss (s1.getD 0 undef) t7 (fun t9 w =>
  M.cond t9
  (M.indexSl 3 x0 (s1.getD 0 undef) (fun t14 w =>
  M.loadA 3 t14 (fun t15 w =>
  M.callv Try.prog x1 #[t15] (fun t16 w =>
  M.cond t16
  (R (s1.getD 0 undef) w)
  (M.bin .add (s1.getD 0 undef) (Value.int IntKind.i64 1) (fun t18 w =>
  K1 [t18] w) w)) w) w) w)
  (R (Value.int IntKind.i64 (-1)) w)) w) w) w
theorem ok76 (x0 x1 : Value) (R : Kt) (w : World) (h : sh76 x0 x1 R w) : Ret Try.prog 76 #[x0, x1] w R :=
  ret_mk <| calls_of_comp mixed (c := Try.f76.body.getD .skip) (args := [x0, x1]) (rs := [(ResultVar.tmp 4)]) (Ann.seq Ann.text (Ann.seq (Ann.seq Ann.text (Ann.block (Ann.loop [8] [4, 5, 9, 10, 11, 12, 13, 14, 15, 16, 17, 18] (Ann.seq Ann.text (Ann.seq (Ann.cond Ann.leaf Ann.leaf) (Ann.seq (Ann.block (Ann.seq Ann.text (Ann.seq Ann.text (Ann.cond (Ann.seq Ann.text Ann.leaf) Ann.leaf)))) Ann.text)))))) (Ann.seq Ann.text Ann.leaf)))
    Try.func76 (by kernel_rfl) (by kernel_rfl)
    (Eq.mp (by kernel_rfl) h)
/-! (*breakwater/sstep.stepper).input: function 35 -/
def sh35 (x0 : Value) (R : Kt) (w : World) : Prop :=
  M.draw (fun w =>
  M.nilCheck x0 (fun t5 w =>
  M.fieldAddr 25 t5 (fun t6 w =>
  M.load1 t6 (fun t7 w =>
  M.bin .lss t7 (Value.int IntKind.i64 0) (fun t8 w =>
  M.gd t8 false (fun k w => k x0 w) (fun t10 w =>
  M.gd t8 false (fun k w => M.nilCheck t10 k w) (fun t11 w =>
  M.gd t8 false (fun k w => M.fieldAddr 20 t11 k w) (fun t12 w =>
  M.gd t8 false (fun k w => M.fieldAddr 4 t12 k w) (fun t13 w =>
  M.gd t8 false (fun k w => M.load1 t13 k w) (fun t14 w =>
  M.gd t8 false (fun k w => k x0 w) (fun t15 w =>
  M.gd t8 false (fun k w => M.nilCheck t15 k w) (fun t16 w =>
  M.gd t8 false (fun k w => M.fieldAddr 25 t16 k w) (fun t17 w =>
  M.gd t8 false (fun k w => M.load1 t17 k w) (fun t18 w =>
  M.gd t8 false (fun k w => M.conv .u64 t18 k w) (fun t19 w =>
  M.gd t8 false (fun k w => M.bin .geq t14 t19 k w) (fun t20 w =>
  M.pick t8 (Value.bool true) t20 (fun t21 w =>
  M.cond t21
  (M.call Try.prog 27 #[x0, (Value.int IntKind.u64 0)] (fun t23 w =>
  R t23 w) w)
  (M.draw (fun w =>
  M.nilCheck x0 (fun t26 w =>
  M.fieldAddr 0 t26 (fun t27 w =>
  M.load1 t27 (fun t28 w =>
  M.nilCheck x0 (fun t30 w =>
  M.fieldAddr 20 t30 (fun t31 w =>
  M.fieldAddr 4 t31 (fun t32 w =>
  M.load1 t32 (fun t33 w =>
  M.conv .i64 t33 (fun t34 w =>
  M.call Try.prog 59 #[t28, (Value.int IntKind.i64 8), t34] (fun t35 w =>
  ((M.load1 t32 (fun v' _ => v' = t33) w) ∧ M.extract 0 t35 (fun t36 w =>
  M.extract 1 t35 (fun t37 w =>
  M.call Try.prog 29 #[x0, t36, t37] (fun t38 w =>
  ((M.load1 t32 (fun v' _ => v' = t33) w) ∧ M.nilCheck x0 (fun t40 w =>
  M.fieldAddr 28 t40 (fun t41 w =>
  M.load1 t41 (fun t42 w =>
  M.bin .neq t42 (Value.int IntKind.i64 0) (fun t43 w =>
  M.cond t43
  (R (Value.int IntKind.i64 0) w)
  (M.nilCheck x0 (fun t46 w =>
  M.fieldAddr 0 t46 (fun t47 w =>
  M.load1 t47 (fun t48 w =>
  M.call Try.prog 50 #[t48, t38, (Value.int IntKind.i64 64), (Value.bool false)] (fun t50 w =>
  M.extract 0 t50 (fun t51 w =>
  M.extract 1 t50 (fun t52 w =>
  M.call Try.prog 29 #[x0, t51, t52] (fun t53 w =>
  R t53 w) w) w) w) w) w) w) w)) w) w) w) w)) w) w) w)) w) w) w) w) w) w) w) w) w) w)) w) w) w) w) w) w) w) w) w) w) w) w) w) w) w) w) w
theorem ok35 (x0 : Value) (R : Kt) (w : World) (h : sh35 x0 R w) : Ret Try.prog 35 #[x0] w R :=
  ret_mk <| calls_of_comp mixed (c := Try.f35.body.getD .skip) (args := [x0]) (rs := [(ResultVar.tmp 2)]) (Ann.seq Ann.text (Ann.seq (Ann.seq (Ann.draw (Sch.take 0 (Sch.take 1 (Sch.take 2 (Sch.take 3 (Sch.take 4 (Sch.take 5 (Sch.take 6 (Sch.take 7 (Sch.take 8 (Sch.take 9 (Sch.take 10 (Sch.take 11 (Sch.take 12 (Sch.take 13 (Sch.take 14 (Sch.take 15 (Sch.take 16 (Sch.take 17 Sch.done))))))))))))))))))) (Ann.cond (Ann.seq Ann.text Ann.leaf) Ann.leaf)) (Ann.seq (Ann.draw (Sch.take 0 (Sch.take 1 (Sch.take 2 (Sch.take 3 (Sch.take 4 (Sch.take 5 (Sch.take 6 (Sch.take 7 (Sch.take 8 (Sch.take 9 (Sch.take 10 (Sch.one 11 (Sch.take 12 (Sch.take 13 (Sch.one 14 (Sch.take 15 Sch.done))))))))))))))))) (Ann.seq (Ann.seq Ann.text (Ann.cond (Ann.seq Ann.text Ann.leaf) Ann.leaf)) (Ann.seq Ann.text Ann.leaf)))))
    Try.func35 (by kernel_rfl) (by kernel_rfl)
    (Eq.mp (by kernel_rfl) h)
/-! (*breakwater/sstep.stepper).binary: function 28 -/
def sh28 (x0 : Value) (R : Kt) (w : World) : Prop :=
  M.nilCheck x0 (fun t6 w =>
  M.fieldAddr 20 t6 (fun t7 w =>
  M.fieldAddr 4 t7 (fun t8 w =>
  M.load1 t8 (fun t9 w =>
  M.conv .i64 t9 (fun t10 w =>
  M.draw (fun w =>
  M.nilCheck x0 (fun t13 w =>
  M.fieldAddr 0 t13 (fun t14 w =>
  M.load1 t14 (fun t15 w =>
  M.nilCheck x0 (fun t19 w =>
  M.fieldAddr 20 t19 (fun t20 w =>
  M.fieldAddr 2 t20 (fun t21 w =>
  M.load1 t21 (fun t22 w =>
  M.nilCheck x0 (fun t23 w =>
  M.fieldAddr 1 t23 (fun t24 w =>
  M.fieldAddr 0 t24 (fun t25 w =>
  M.indexArr 8 1 t25 t22 (fun t26 w =>
  M.load1 t26 (fun t27 w =>
  M.nilCheck x0 (fun t30 w =>
  M.fieldAddr 20 t30 (fun t31 w =>
  M.fieldAddr 3 t31 (fun t32 w =>
  M.load1 t32 (fun t33 w =>
  M.nilCheck x0 (fun t34 w =>
  M.fieldAddr 1 t34 (fun t35 w =>
  M.fieldAddr 0 t35 (fun t36 w =>
  M.indexArr 8 1 t36 t33 (fun t37 w =>
  M.load1 t37 (fun t38 w =>
  M.call Try.prog 49 #[t15, t10, t27, t38] (fun t39 w =>
  ((M.load1 t32 (fun v' _ => v' = t33) w) ∧ ((M.load1 t21 (fun v' _ => v' = t22) w) ∧ M.extract 0 t39 (fun t40 w =>
  M.extract 1 t39 (fun t41 w =>
  M.call Try.prog 29 #[x0, t40, t41] (fun t42 w =>
  ((M.load1 t32 (fun v' _ => v' = t33) w) ∧ ((M.load1 t21 (fun v' _ => v' = t22) w) ∧ M.share (fun K1 w =>
  M.nilCheck x0 (fun t44 w =>
  M.fieldAddr 28 t44 (fun t45 w =>
  M.load1 t45 (fun t46 w =>
  M.bin .eql t46 (Value.int IntKind.i64 0) (fun t47 w =>
  M.gd t47 true (fun k w => k t10 w) (fun t49 w =>
  M.gd t47 true (fun k w => M.bin .eql t49 (Value.int IntKind.i64 12) k w) (fun t50 w =>
  M.gd t47 true (fun k w => k t50 w) (fun t51 w =>
  M.gd t51 false (fun k w => k t10 w) (fun t52 w =>
  M.gd t51 false (fun k w => M.bin .eql t52 (Value.int IntKind.i64 13) k w) (fun t53 w =>
  M.gd t47 true (fun k w => M.pick t51 (Value.bool true) t53 k w) (fun t54 w =>
  M.gd t47 true (fun k w => k t54 w) (fun t55 w =>
  M.gd t55 false (fun k w => k t10 w) (fun t56 w =>
  M.gd t55 false (fun k w => M.bin .eql t56 (Value.int IntKind.i64 14) k w) (fun t57 w =>
  M.gd t47 true (fun k w => M.pick t55 (Value.bool true) t57 k w) (fun t58 w =>
  M.pick t47 t58 (Value.bool false) (fun t59 w =>
  M.cond t59
  (M.nilCheck x0 (fun t62 w =>
  M.fieldAddr 0 t62 (fun t63 w =>
  M.load1 t63 (fun t64 w =>
  M.call Try.prog 50 #[t64, t42, (Value.int IntKind.i64 64), (Value.bool false)] (fun t66 w =>
  M.extract 0 t66 (fun t67 w =>
  M.extract 1 t66 (fun t68 w =>
  M.call Try.prog 29 #[x0, t67, t68] (fun t69 w =>
  K1 [t69] w) w) w) w) w) w) w) w)
  (K1 [t42] w)) w) w) w) w) w) w) w) w) w) w) w) w) w) w) w) (fun s1 w => ∀ _ : List Value,
  R (s1.getD 0 undef) w) w))) w) w) w))) w) w) w) w) w) w) w) w) w) w) w) w) w) w) w) w) w) w) w) w) w) w) w) w) w) w) w) w
theorem ok28 (x0 : Value) (R : Kt) (w : World) (h : sh28 x0 R w) : Ret Try.prog 28 #[x0] w R :=
  ret_mk <| calls_of_comp mixed (c := Try.f28.body.getD .skip) (args := [x0]) (rs := [(ResultVar.tmp 2)]) (Ann.seq Ann.text (Ann.seq Ann.text (Ann.seq (Ann.draw (Sch.take 0 (Sch.take 1 (Sch.take 2 (Sch.take 3 (Sch.take 4 (Sch.take 5 (Sch.take 6 (Sch.take 7 (Sch.take 8 (Sch.take 9 (Sch.take 10 (Sch.take 11 (Sch.take 12 (Sch.take 13 (Sch.take 14 (Sch.take 15 (Sch.take 16 (Sch.take 17 (Sch.take 18 (Sch.take 19 (Sch.take 20 (Sch.take 21 (Sch.take 22 (Sch.take 23 (Sch.take 24 (Sch.take 25 (Sch.take 26 (Sch.take 27 (Sch.one 28 (Sch.take 29 (Sch.take 30 (Sch.one 31 (Sch.take 32 Sch.done)))))))))))))))))))))))))))))))))) (Ann.join [4] [43, 44, 45, 46, 47, 48, 49, 50, 51, 52, 53, 54, 55, 56, 57, 58, 59, 60, 61, 62, 63, 64, 65, 66, 67, 68, 69] (Ann.seq Ann.text (Ann.cond Ann.text Ann.leaf)) (Ann.seq Ann.text Ann.leaf)))))
    Try.func28 (by kernel_rfl) (by kernel_rfl)
    (Eq.mp (by kernel_rfl) h)
/-! (*breakwater/sstep.stepper).branch: function 32 -/
def sh32 (x0 : Value) (R : Kt) (w : World) : Prop :=
  M.draw (fun w =>
  M.nilCheck x0 (fun t6 w =>
  M.fieldAddr 20 t6 (fun t7 w =>
  M.fieldAddr 1 t7 (fun t8 w =>
  M.load1 t8 (fun t9 w =>
  M.nilCheck x0 (fun t10 w =>
  M.fieldAddr 1 t10 (fun t11 w =>
  M.fieldAddr 0 t11 (fun t12 w =>
  M.indexArr 8 1 t12 t9 (fun t13 w =>
  M.load1 t13 (fun t14 w =>
  M.call Try.prog 53 #[x0, t14, (Value.int IntKind.u64 0)] (fun t15 w =>
  ((M.load1 t8 (fun v' _ => v' = t9) w) ∧ M.call Try.prog 31 #[x0] (fun t18 w =>
  M.call Try.prog 54 #[x0, t15] (fun t21 w =>
  M.call Try.prog 25 #[x0, t18, t21] (fun t22 w =>
  M.call Try.prog 48 #[x0] (fun t25 w =>
  M.call Try.prog 25 #[x0, t25, t15] (fun t27 w =>
  R (.tuple #[]) w) w) w) w) w) w)) w) w) w) w) w) w) w) w) w) w) w
theorem ok32 (x0 : Value) (R : Kt) (w : World) (h : sh32 x0 R w) : Ret Try.prog 32 #[x0] w R :=
  ret_mk <| calls_of_comp mixed (c := Try.f32.body.getD .skip) (args := [x0]) (rs := []) (Ann.seq (Ann.draw (Sch.take 0 (Sch.take 1 (Sch.take 2 (Sch.take 3 (Sch.take 4 (Sch.take 5 (Sch.take 6 (Sch.take 7 (Sch.take 8 (Sch.take 9 (Sch.take 10 (Sch.take 11 (Sch.one 12 (Sch.take 13 Sch.done))))))))))))))) (Ann.seq Ann.text Ann.text))
    Try.func32 (by kernel_rfl) (by kernel_rfl)
    (Eq.mp (by kernel_rfl) h)

section
variable {w : World} {F : Nat → Prop} {p pb : Nat} {N : List Nd} {most : Int} {s : Sy} {sv : List Value} {i : Ins} {inputs mw : Int} {ov : Value} {outs : List Sy} {e : Int} {c a b d : Value}
theorem SyO.back {t : Nat} {w0 : World} {t' : Sy} {c a b d : Value} (hF : ∀ x, w0.heap.size ≤ x → Fr F pb ov x) : True := trivial
theorem putN_len (pend : List SP) : ∀ (disk : List Int), (putN disk pend).length = disk.length := by
  unfold putN
  induction pend with
  | nil => intro disk; rfl
  | cons x l ih =>
    intro disk
    rw [List.foldl_cons, ih]
    split <;> simp
theorem flush37_ret (h : Stp w F p pb N most s sv i inputs mw ov [] e) (hsv : sv = s.vals c a b d) (hB : Bnd s) :
    Ret Try.prog 38 #[ptr pb] w (Adds w F p pb most s sv i inputs mw ov (plainR N e s.flush)) := by
  have hdl := hB.disk
  have hpl := hB.pend
  refine ok38 _ _ _ ?_
  unfold sh38
  have hca := h.ca hsv
  (repeat (first|refine ja ?_|refine jb ?_|refine jc ?_|refine jd ?_|refine je ?_|refine jf ?_|refine jg ?_|refine jh ?_|refine ji ?_|refine jj ?_|refine jk ?_|refine jl ?_|refine jm ?_|refine jn ?_|refine jo ?_|refine jp ?_|refine jq ?_|refine jr ?_|refine js ?_|refine jt ?_|refine ju ?_|refine jv ?_|refine jw ?_|refine jx ?_|refine jy ?_|refine jz ?_|refine jA ?_|refine jB ?_|refine jC ?_|refine jD ?_|refine jE ?_|refine jF ?_|refine jG ?_|refine jH ?_|refine jI ?_|refine jJ ?_|refine jK ?_|refine jL ?_|refine jM (by assumption) ?_|refine jN (by assumption) rfl ?_|refine jO (by assumption) ?_|refine jP (by assumption) rfl ?_|refine jQ ?_|refine jR ?_|refine jS ?_|refine jT ?_|refine jU (by assumption) rfl ?_))
  refine M.call_i (clone37_ret (h.lists hsv).2.1.1 (by omega)) ?_
  rintro va w1 ⟨g1, k1⟩
  have h1 := h.keepN k1
  obtain ⟨A1, cA1, eA1, _, _⟩ := GI.lv g1
  refine M.pure_i (.agg ⟨[va, .slice none 0 0, vi 0]⟩) (fun _ => by rw [eA1]; kernel_rfl) ?_
  refine M.new_i (l := [.slice none 0 0, .slice none 0 0, vi 0]) (fun w2 b2 k2 s2 => ?_)
  have g2 := g1.keep k2 (fun _ _ _ h => h)
  refine M.storeAll_i (vs := [va, .slice none 0 0, vi 0]) b2 rfl rfl (by
    simp only [List.mem_cons, List.not_mem_nil, or_false, forall_eq_or_imp, forall_eq]
    exact ⟨GC.one g1, rfl, rfl⟩) (fun w3 b3 k3 s3 => ?_)
  have q1 := k1.size
  have hblk1 : ∀ x, blkOf va x → x < w1.heap.size := fun x hx => by
    obtain ⟨_, l', hl'⟩ := GC.blkOf g1 hx
    exact hl'.lt
  have g2o := (GC.own g1).keep k2 (fun _ _ _ h => h)
  have g3 := g2o.keep k3 (fun x hx hl e => by have := hblk1 x hl; have e : x = w1.heap.size := e; omega)
  have k03 : Keep w w3 No := (k1.trans k2 (fun _ _ h => h)).trans k3 (fun x hx e => by have e : x = w1.heap.size := e; omega)
  have h3 := h.keepN k03
  have hge : ∀ x, blkOf va x → w.heap.size ≤ x := fun x hx => (GC.blkOf g1 hx).1
  have hcb := h3.cb hsv
  obtain ⟨B, cB, eb, hrb, hcB⟩ := (h3.lists hsv).2.1.2
  (repeat (first|refine ja ?_|refine jb ?_|refine jc ?_|refine jd ?_|refine je ?_|refine jf ?_|refine jg ?_|refine jh ?_|refine ji ?_|refine jj ?_|refine jk ?_|refine jl ?_|refine jm ?_|refine jn ?_|refine jo ?_|refine jp ?_|refine jq ?_|refine jr ?_|refine js ?_|refine jt ?_|refine ju ?_|refine jv ?_|refine jw ?_|refine jx ?_|refine jy ?_|refine jz ?_|refine jA ?_|refine jB ?_|refine jC ?_|refine jD ?_|refine jE ?_|refine jF ?_|refine jG ?_|refine jH ?_|refine jI ?_|refine jJ ?_|refine jK ?_|refine jL ?_|refine jM (by assumption) ?_|refine jN (by assumption) rfl ?_|refine jO (by assumption) ?_|refine jP (by assumption) rfl ?_|refine jQ ?_|refine jR ?_|refine jS ?_|refine jT ?_|refine jU (by assumption) rfl ?_))
  rw [eb]
  (repeat (first|refine ja ?_|refine jb ?_|refine jc ?_|refine jd ?_|refine je ?_|refine jf ?_|refine jg ?_|refine jh ?_|refine ji ?_|refine jj ?_|refine jk ?_|refine jl ?_|refine jm ?_|refine jn ?_|refine jo ?_|refine jp ?_|refine jq ?_|refine jr ?_|refine js ?_|refine jt ?_|refine ju ?_|refine jv ?_|refine jw ?_|refine jx ?_|refine jy ?_|refine jz ?_|refine jA ?_|refine jB ?_|refine jC ?_|refine jD ?_|refine jE ?_|refine jF ?_|refine jG ?_|refine jH ?_|refine jI ?_|refine jJ ?_|refine jK ?_|refine jL ?_|refine jM (by assumption) ?_|refine jN (by assumption) rfl ?_|refine jO (by assumption) ?_|refine jP (by assumption) rfl ?_|refine jQ ?_|refine jR ?_|refine jS ?_|refine jT ?_|refine jU (by assumption) rfl ?_))
  refine M.loop_i (σ := Nat) (fun j vals w' => vals = [vi j] ∧ j ≤ s.dev.pend.length ∧ GI w' (blkOf va) va (putN s.dev.disk (s.dev.pend.take j)) ∧ Blk w' w1.heap.size [va, .slice none 0 0, vi 0] ∧ Keep w3 w' (blkOf va)) (fun j => s.dev.pend.length - j) 0 ⟨rfl, by omega, g3, b3, Keep.refl _ _⟩ ?_
  rintro j vals w4 K ⟨rfl, hj, g4, b4, k4⟩ hK _
  simp only [List.getD_cons_zero, List.getD_cons_succ]
  have k04 : Keep w w4 No := k03.trans k4 (fun x hx e => by have := hge x e; omega)
  by_cases hlt : j < s.dev.pend.length
  · obtain ⟨y, hy⟩ : ∃ y, s.dev.pend[j]? = some y := ⟨_, List.getElem?_eq_getElem hlt⟩
    have et : putN s.dev.disk (s.dev.pend.take (j + 1)) = (if 0 ≤ y.b ∧ y.b < ((putN s.dev.disk (s.dev.pend.take j)).length : Int) then (putN s.dev.disk (s.dev.pend.take j)).set y.b.toNat y.v else putN s.dev.disk (s.dev.pend.take j)) := by
      unfold putN
      rw [List.take_add_one, hy, List.foldl_append]; rfl
    have hrb0 := (h.lists hsv).2.1.2
    rw [eb] at hrb0
    obtain ⟨B', cB', eb', hrb', _⟩ := hrb0
    simp only [Value.slice.injEq] at eb'
    obtain ⟨rfl, _, rfl⟩ := eb'
    have hrb4 := hrb'.keep k04 (fun _ _ _ h => h)
    have hlen := putN_len (s.dev.pend.take j) s.dev.disk
    (repeat (first|refine ja ?_|refine jb ?_|refine jc ?_|refine jd ?_|refine je ?_|refine jf ?_|refine jg ?_|refine jh ?_|refine ji ?_|refine jj ?_|refine jk ?_|refine jl ?_|refine jm ?_|refine jn ?_|refine jo ?_|refine jp ?_|refine jq ?_|refine jr ?_|refine js ?_|refine jt ?_|refine ju ?_|refine jv ?_|refine jw ?_|refine jx ?_|refine jy ?_|refine jz ?_|refine jA ?_|refine jB ?_|refine jC ?_|refine jD ?_|refine jE ?_|refine jF ?_|refine jG ?_|refine jH ?_|refine jI ?_|refine jJ ?_|refine jK ?_|refine jL ?_|refine jM (by assumption) ?_|refine jN (by assumption) rfl ?_|refine jO (by assumption) ?_|refine jP (by assumption) rfl ?_|refine jQ ?_|refine jR ?_|refine jS ?_|refine jT ?_|refine jU (by assumption) rfl ?_))
    refine M.share_j (fun vals w' => vals = [] ∧ GI w' (blkOf va) va (putN s.dev.disk (s.dev.pend.take (j + 1))) ∧ Blk w' w1.heap.size [va, .slice none 0 0, vi 0] ∧ Keep w3 w' (blkOf va)) ?_ ?_
    · rintro vals w' ⟨rfl, g', b', k'⟩ _
      (repeat (first|refine ja ?_|refine jb ?_|refine jc ?_|refine jd ?_|refine je ?_|refine jf ?_|refine jg ?_|refine jh ?_|refine ji ?_|refine jj ?_|refine jk ?_|refine jl ?_|refine jm ?_|refine jn ?_|refine jo ?_|refine jp ?_|refine jq ?_|refine jr ?_|refine js ?_|refine jt ?_|refine ju ?_|refine jv ?_|refine jw ?_|refine jx ?_|refine jy ?_|refine jz ?_|refine jA ?_|refine jB ?_|refine jC ?_|refine jD ?_|refine jE ?_|refine jF ?_|refine jG ?_|refine jH ?_|refine jI ?_|refine jJ ?_|refine jK ?_|refine jL ?_|refine jM (by assumption) ?_|refine jN (by assumption) rfl ?_|refine jO (by assumption) ?_|refine jP (by assumption) rfl ?_|refine jQ ?_|refine jR ?_|refine jS ?_|refine jT ?_|refine jU (by assumption) rfl ?_))
      exact hK (j + 1) _ _ (by omega) ⟨rfl, by omega, g', b', k'⟩
    · intro K2 hK2
      refine M.idxF_i sp_len (by omega) hrb4 rfl (by omega) (x := y) (by rw [Int.toNat_natCast]; exact hy) (fun bb oo hcc => ?_)
      refine M.load3_i (hcc 0 (vi y.b) rfl) (hcc 1 (vi y.v) rfl) (hcc 2 (vi y.e) rfl) ?_
      refine M.new_i (l := [vi 0, vi 0, vi 0]) (fun w5 b5 k5 s5 => ?_)
      have b4' := b4.keep k5 (fun h => h)
      have g5 := g4.keep k5 (fun _ _ _ h => h)
      have hb4 := b4.lt
      refine M.storeAll_i (vs := [vi y.b, vi y.v, vi y.e]) b5 rfl rfl (by intro z hz; simp at hz; rcases hz with rfl | rfl | rfl <;> rfl) (fun w6 b6 k6 s6 => ?_)
      have b6' := b4'.keep k6 (fun e => by have e : w1.heap.size = w4.heap.size := e; omega)
      have hbv4 : ∀ x, blkOf va x → x < w4.heap.size := fun x hx => by
        obtain ⟨_, l', hl'⟩ := GC.blkOf g4 hx
        exact hl'.lt
      have g6 := g5.keep k6 (fun x hx hl e => by have := hbv4 x hl; have e : x = w4.heap.size := e; omega)
      have k46 : Keep w3 w6 (blkOf va) := (k4.trans k5 (fun _ _ h => h.elim)).trans k6 (fun x hx e => by have e : x = w4.heap.size := e; have := k4.size; omega)
      obtain ⟨A, cA, eA, hA, _⟩ := GI.lv g6
      by_cases hy0 : 0 ≤ y.b
      · rw [eA] at b6'
        by_cases hyl : y.b < ((putN s.dev.disk (s.dev.pend.take j)).length : Int)
        · rw [if_pos ⟨hy0, hyl⟩] at et
          (repeat (first|refine ja ?_|refine jb ?_|refine jc ?_|refine jd ?_|refine je ?_|refine jf ?_|refine jg ?_|refine jh ?_|refine ji ?_|refine jj ?_|refine jk ?_|refine jl ?_|refine jm ?_|refine jn ?_|refine jo ?_|refine jp ?_|refine jq ?_|refine jr ?_|refine js ?_|refine jt ?_|refine ju ?_|refine jv ?_|refine jw ?_|refine jx ?_|refine jy ?_|refine jz ?_|refine jA ?_|refine jB ?_|refine jC ?_|refine jD ?_|refine jE ?_|refine jF ?_|refine jG ?_|refine jH ?_|refine jI ?_|refine jJ ?_|refine jK ?_|refine jL ?_|refine jM (by assumption) ?_|refine jN (by assumption) rfl ?_|refine jO (by assumption) ?_|refine jP (by assumption) rfl ?_|refine jQ ?_|refine jR ?_|refine jS ?_|refine jT ?_|refine jU (by assumption) rfl ?_))
          rw [← eA]
          refine M.idxStore_i g6 hy0 hyl (fun w7 g7 k7 s7 => ?_)
          rw [← et] at g7
          rw [← eA] at b6'
          exact hK2 [] w7 ⟨rfl, g7, b6'.keep k7 (fun hx => by have := hblk1 _ hx; omega), k46.trans k7 (fun _ _ h => h)⟩
        · rw [if_neg (fun h => hyl h.2)] at et
          (repeat (first|refine ja ?_|refine jb ?_|refine jc ?_|refine jd ?_|refine je ?_|refine jf ?_|refine jg ?_|refine jh ?_|refine ji ?_|refine jj ?_|refine jk ?_|refine jl ?_|refine jm ?_|refine jn ?_|refine jo ?_|refine jp ?_|refine jq ?_|refine jr ?_|refine js ?_|refine jt ?_|refine ju ?_|refine jv ?_|refine jw ?_|refine jx ?_|refine jy ?_|refine jz ?_|refine jA ?_|refine jB ?_|refine jC ?_|refine jD ?_|refine jE ?_|refine jF ?_|refine jG ?_|refine jH ?_|refine jI ?_|refine jJ ?_|refine jK ?_|refine jL ?_|refine jM (by assumption) ?_|refine jN (by assumption) rfl ?_|refine jO (by assumption) ?_|refine jP (by assumption) rfl ?_|refine jQ ?_|refine jR ?_|refine jS ?_|refine jT ?_|refine jU (by assumption) rfl ?_))
          rw [← eA] at b6'
          exact hK2 [] w6 ⟨rfl, by rw [et]; exact g6, b6', k46⟩
      · rw [if_neg (fun h => hy0 h.1)] at et
        (repeat (first|refine ja ?_|refine jb ?_|refine jc ?_|refine jd ?_|refine je ?_|refine jf ?_|refine jg ?_|refine jh ?_|refine ji ?_|refine jj ?_|refine jk ?_|refine jl ?_|refine jm ?_|refine jn ?_|refine jo ?_|refine jp ?_|refine jq ?_|refine jr ?_|refine js ?_|refine jt ?_|refine ju ?_|refine jv ?_|refine jw ?_|refine jx ?_|refine jy ?_|refine jz ?_|refine jA ?_|refine jB ?_|refine jC ?_|refine jD ?_|refine jE ?_|refine jF ?_|refine jG ?_|refine jH ?_|refine jI ?_|refine jJ ?_|refine jK ?_|refine jL ?_|refine jM (by assumption) ?_|refine jN (by assumption) rfl ?_|refine jO (by assumption) ?_|refine jP (by assumption) rfl ?_|refine jQ ?_|refine jR ?_|refine jS ?_|refine jT ?_|refine jU (by assumption) rfl ?_))
        exact hK2 [] w6 ⟨rfl, by rw [et]; exact g6, b6', k46⟩
  · have ej : j = s.dev.pend.length := by omega
    subst ej
    rw [List.take_length] at g4
    (repeat (first|refine ja ?_|refine jb ?_|refine jc ?_|refine jd ?_|refine je ?_|refine jf ?_|refine jg ?_|refine jh ?_|refine ji ?_|refine jj ?_|refine jk ?_|refine jl ?_|refine jm ?_|refine jn ?_|refine jo ?_|refine jp ?_|refine jq ?_|refine jr ?_|refine js ?_|refine jt ?_|refine ju ?_|refine jv ?_|refine jw ?_|refine jx ?_|refine jy ?_|refine jz ?_|refine jA ?_|refine jB ?_|refine jC ?_|refine jD ?_|refine jE ?_|refine jF ?_|refine jG ?_|refine jH ?_|refine jI ?_|refine jJ ?_|refine jK ?_|refine jL ?_|refine jM (by assumption) ?_|refine jN (by assumption) rfl ?_|refine jO (by assumption) ?_|refine jP (by assumption) rfl ?_|refine jQ ?_|refine jR ?_|refine jS ?_|refine jT ?_|refine jU (by assumption) rfl ?_))
    refine M.loadAll_i b4 rfl ?_
    have h4 := h.keepN k04
    have hv : SDvO w4 (Fr F pb ov) va (.slice none 0 0) ⟨putN s.dev.disk s.dev.pend, [], 0⟩ := ⟨(GI.lv g4).mono (fun x _ hx => h.fresh (hge x hx)), LN.nil _ _ _⟩
    refine M.call_i (call37_ret (v := ⟨putN s.dev.disk s.dev.pend, [], 0⟩) h4 hsv hB.pc hB.calls hv) ?_; rintro _ w5 ⟨rfl, k5⟩
    have h5 := h4.keepN k5
    have h8' : s.flush.regs.length = 8 := h.sy.1
    have hs5 : SyO w5 (Fr F pb ov) (.agg ⟨s.flush.vals c va (.slice none 0 0) d⟩) s.flush := SyO.of_vals h8' ⟨(h5.lists hsv).1, hv.keep k5 (fun _ _ _ h => h), (h5.lists hsv).2.2⟩
    refine M.call_i (add37_ret h5 hs5 hB.conds (by simp) (-1)) ?_
    rintro _ w6 ⟨rfl, ov6, h6, m6⟩
    exact ⟨rfl, F, ov6, h6, (Mv.none (k04.trans k5 (fun _ _ h => h))).trans m6⟩
end
end Go.Proofs.Ytanjlgafjgoaaaa
