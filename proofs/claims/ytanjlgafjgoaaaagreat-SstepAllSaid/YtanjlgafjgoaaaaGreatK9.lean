import Derived.Test.YtanjlgafjgoaaaaGreatK8
namespace Go.Proofs.YtanjlgafjgoaaaaGreat
open Go.Mw
set_option linter.unusedVariables false
set_option linter.unusedSimpArgs false
set_option maxRecDepth 100000
attribute [local irreducible] M.val M.unit M.next M.pick M.new M.nilCheck M.load1 M.loadA M.store M.fieldAddr M.indexSl M.indexArr M.slice M.makeSlice M.buildSlice M.len M.lenS M.cap M.append M.extract M.conv M.not M.neg M.bin M.shift M.eqB M.eqNil M.scat M.call M.callv M.gd M.share M.cond M.loop M.draw pureW readW Ret
variable {Z : Nat → Prop}
def sh56 (x0 : Value) (R : Kt) (w : World) : Prop :=
  M.nilCheck x0 (fun t6 w =>
  M.fieldAddr 1 t6 (fun t7 w =>
  M.fieldAddr 15 t7 (fun t8 w =>
  M.fieldAddr 0 t8 (fun t9 w =>
  M.load1 t9 (fun t10 w =>
  M.call Tryz.prog 93 #[t10] (fun t11 w =>
  pureW Tryz.prog (Instr.build 33 #[(0, t11)]) (fun t12 w =>
  M.new 33 #[.slice none 0 0, .slice none 0 0, .int .i64 0] (fun t2 w =>
  M.store 3 t2 t12 (fun _ w =>
  M.nilCheck x0 (fun t14 w =>
  M.fieldAddr 1 t14 (fun t15 w =>
  M.fieldAddr 15 t15 (fun t16 w =>
  M.fieldAddr 1 t16 (fun t17 w =>
  M.load1 t17 (fun t18 w =>
  M.len t18 (fun t19 w =>
  M.loop [(Value.int IntKind.i64 0)] (fun s1 K1 w => ∀ _ : List Value,
  M.bin .lss (s1.getD 0 undef) t19 (fun t21 w =>
  M.cond t21
  (M.share (fun K2 w =>
  M.indexSl 3 t18 (s1.getD 0 undef) (fun t22 w =>
  M.loadA 3 t22 (fun t23 w =>
  M.new 97 #[.int .i64 0, .int .i64 0, .int .i64 0] (fun t4 w =>
  M.store 3 t4 t23 (fun _ w =>
  M.fieldAddr 0 t4 (fun t24 w =>
  M.load1 t24 (fun t25 w =>
  M.bin .geq t25 (Value.int IntKind.i64 0) (fun t26 w =>
  M.gd t26 true (fun k w => M.fieldAddr 0 t4 k w) (fun t28 w =>
  M.gd t26 true (fun k w => M.load1 t28 k w) (fun t29 w =>
  M.gd t26 true (fun k w => M.fieldAddr 0 t2 k w) (fun t30 w =>
  M.gd t26 true (fun k w => M.load1 t30 k w) (fun t31 w =>
  M.gd t26 true (fun k w => M.len t31 k w) (fun t32 w =>
  M.gd t26 true (fun k w => M.bin .lss t29 t32 k w) (fun t33 w =>
  M.pick t26 t33 (Value.bool false) (fun t34 w =>
  M.cond t34
  (M.fieldAddr 0 t2 (fun t35 w =>
  M.load1 t35 (fun t36 w =>
  M.fieldAddr 0 t4 (fun t37 w =>
  M.load1 t37 (fun t38 w =>
  M.fieldAddr 1 t4 (fun t39 w =>
  M.load1 t39 (fun t40 w =>
  M.indexSl 1 t36 t38 (fun t41 w =>
  M.store 1 t41 t40 (fun _ w =>
  K2 [] w) w) w) w) w) w) w) w) w)
  (K2 [] w)) w) w) w) w) w) w) w) w) w) w) w) w) w) w) (fun s2 w => ∀ _ : List Value,
  M.bin .add (s1.getD 0 undef) (Value.int IntKind.i64 1) (fun t42 w =>
  K1 [t42] w) w) w)
  (M.loadA 3 t2 (fun t45 w =>
  M.call Tryz.prog 98 #[x0, t45] (fun t46 w =>
  M.call Tryz.prog 43 #[x0, t46, (Value.int IntKind.i64 (-1))] (fun t47 w =>
  R (.tuple #[]) w) w) w) w)) w) w) w) w) w) w) w) w) w) w) w) w) w) w) w) w) w
theorem ok56 (x0 : Value) (R : Kt) (w : World) (h : sh56 x0 R w) : Ret Tryz.prog 56 #[x0] w R :=
  ret_mk <| calls_of_comp mixed (c := Tryz.f56.body.getD .skip) (args := [x0]) (rs := []) (Ann.seq Ann.text (Ann.seq (Ann.seq Ann.text (Ann.block (Ann.loop [20] [4, 21, 22, 23, 24, 25, 26, 27, 28, 29, 30, 31, 32, 33, 34, 35, 36, 37, 38, 39, 40, 41, 42] (Ann.seq Ann.text (Ann.seq (Ann.cond Ann.leaf Ann.leaf) (Ann.seq (Ann.jblock [] [4, 22, 23, 24, 25, 26, 27, 28, 29, 30, 31, 32, 33, 34, 35, 36, 37, 38, 39, 40, 41] (Ann.seq Ann.text (Ann.seq Ann.text (Ann.cond Ann.text Ann.leaf)))) Ann.text)))))) Ann.text))
    Tryz.func56 (by kernel_rfl) (by kernel_rfl)
    (Eq.mp (by kernel_rfl) h)
def sh57 (x0 : Value) (R : Kt) (w : World) : Prop :=
  M.nilCheck x0 (fun t4 w =>
  M.fieldAddr 1 t4 (fun t5 w =>
  M.fieldAddr 15 t5 (fun t6 w =>
  M.loadA 3 t6 (fun t7 w =>
  M.new 33 #[.slice none 0 0, .slice none 0 0, .int .i64 0] (fun t2 w =>
  M.store 3 t2 t7 (fun _ w =>
  M.share (fun K1 w =>
  M.fieldAddr 1 t2 (fun t8 w =>
  M.load1 t8 (fun t9 w =>
  M.call Tryz.prog 99 #[t9, (.func (Fn.func 100) #[] #[t2])] (fun t11 w =>
  M.cond t11
  (M.fieldAddr 2 t2 (fun t12 w =>
  M.load1 t12 (fun t13 w =>
  M.bin .add t13 (Value.int IntKind.i64 1) (fun t14 w =>
  M.fieldAddr 2 t2 (fun t15 w =>
  M.store 1 t15 t14 (fun _ w =>
  K1 [] w) w) w) w) w) w)
  (K1 [] w)) w) w) w) (fun s1 w => ∀ _ : List Value,
  M.loadA 3 t2 (fun t18 w =>
  M.call Tryz.prog 98 #[x0, t18] (fun t19 w =>
  M.call Tryz.prog 43 #[x0, t19, (Value.int IntKind.i64 (-1))] (fun t20 w =>
  R (.tuple #[]) w) w) w) w) w) w) w) w) w) w) w
theorem ok57 (x0 : Value) (R : Kt) (w : World) (h : sh57 x0 R w) : Ret Tryz.prog 57 #[x0] w R :=
  ret_mk <| calls_of_comp mixed (c := Tryz.f57.body.getD .skip) (args := [x0]) (rs := []) (Ann.seq Ann.text (Ann.join [] [8, 9, 10, 11, 12, 13, 14, 15] (Ann.seq Ann.text (Ann.cond Ann.text Ann.leaf)) Ann.text))
    Tryz.func57 (by kernel_rfl) (by kernel_rfl)
    (Eq.mp (by kernel_rfl) h)
def sh99 (x0 x1 : Value) (R : Kt) (w : World) : Prop :=
  M.call Tryz.prog 119 #[x0, x1] (fun t7 w =>
  M.bin .geq t7 (Value.int IntKind.i64 0) (fun t8 w =>
  R t8 w) w) w
theorem ok99 (x0 x1 : Value) (R : Kt) (w : World) (h : sh99 x0 x1 R w) : Ret Tryz.prog 99 #[x0, x1] w R :=
  ret_mk <| calls_of_comp mixed (c := Tryz.f99.body.getD .skip) (args := [x0, x1]) (rs := [(ResultVar.tmp 4)]) (Ann.seq Ann.text (Ann.seq Ann.text Ann.leaf))
    Tryz.func99 (by kernel_rfl) (by kernel_rfl)
    (Eq.mp (by kernel_rfl) h)
def sh100 (x0 x1 : Value) (R : Kt) (w : World) : Prop :=
  M.new 97 (Value.cells x0) (fun t2 w =>
  M.fieldAddr 2 t2 (fun t4 w =>
  M.load1 t4 (fun t5 w =>
  M.fieldAddr 2 x1 (fun t6 w =>
  M.load1 t6 (fun t7 w =>
  M.bin .eql t5 t7 (fun t8 w =>
  R t8 w) w) w) w) w) w) w
theorem ok100 (x0 x1 : Value) (R : Kt) (w : World) (h : sh100 x0 x1 R w) : Ret Tryz.prog 100 #[x0, x1] w R :=
  ret_mk <| calls_of_comp mixed (c := Tryz.f100.body.getD .skip) (args := [x0, x1]) (rs := [(ResultVar.tmp 3)]) (Ann.seq Ann.text (Ann.seq Ann.text Ann.leaf))
    Tryz.func100 (by kernel_rfl) (by kernel_rfl)
    (Eq.mp (by kernel_rfl) h)
def sh119 (x0 x1 : Value) (R : Kt) (w : World) : Prop :=
  M.len x0 (fun t7 w =>
  M.loop [(Value.int IntKind.i64 0)] (fun s1 K1 w => ∀ _ : List Value,
  M.bin .lss (s1.getD 0 undef) t7 (fun t9 w =>
  M.cond t9
  (M.indexSl 3 x0 (s1.getD 0 undef) (fun t14 w =>
  M.loadA 3 t14 (fun t15 w =>
  M.callv Tryz.prog x1 #[t15] (fun t16 w =>
  M.cond t16
  (R (s1.getD 0 undef) w)
  (M.bin .add (s1.getD 0 undef) (Value.int IntKind.i64 1) (fun t18 w =>
  K1 [t18] w) w)) w) w) w)
  (R (Value.int IntKind.i64 (-1)) w)) w) w) w
theorem ok119 (x0 x1 : Value) (R : Kt) (w : World) (h : sh119 x0 x1 R w) : Ret Tryz.prog 119 #[x0, x1] w R :=
  ret_mk <| calls_of_comp mixed (c := Tryz.f119.body.getD .skip) (args := [x0, x1]) (rs := [(ResultVar.tmp 4)]) (Ann.seq Ann.text (Ann.seq (Ann.seq Ann.text (Ann.block (Ann.loop [8] [4, 5, 9, 10, 11, 12, 13, 14, 15, 16, 17, 18] (Ann.seq Ann.text (Ann.seq (Ann.cond Ann.leaf Ann.leaf) (Ann.seq (Ann.block (Ann.seq Ann.text (Ann.seq Ann.text (Ann.cond (Ann.seq Ann.text Ann.leaf) Ann.leaf)))) Ann.text)))))) (Ann.seq Ann.text Ann.leaf)))
    Tryz.func119 (by kernel_rfl) (by kernel_rfl)
    (Eq.mp (by kernel_rfl) h)
def sh53 (x0 : Value) (R : Kt) (w : World) : Prop :=
  M.draw (fun w =>
  M.nilCheck x0 (fun t5 w =>
  M.fieldAddr 25 t5 (fun t6 w =>
  M.load1 t6 (fun t7 w =>
  M.bin .lss t7 (Value.int IntKind.i64 0) (fun t8 w =>
  M.gd t8 false (fun k w => k x0 w) (fun t10 w =>
  M.gd t8 false (fun k w => M.nilCheck t10 k w) (fun t11 w =>
  M.gd t8 false (fun k w => M.fieldAddr 20 t11 k w) (fun t12 w =>
  M.gd t8 false (fun k w => M.fieldAddr 4 t12 k w) (fun t13 w =>
  M.gd t8 false (fun k w => M.load1 t13 k w) (fun t14 w =>
  M.gd t8 false (fun k w => k x0 w) (fun t15 w =>
  M.gd t8 false (fun k w => M.nilCheck t15 k w) (fun t16 w =>
  M.gd t8 false (fun k w => M.fieldAddr 25 t16 k w) (fun t17 w =>
  M.gd t8 false (fun k w => M.load1 t17 k w) (fun t18 w =>
  M.gd t8 false (fun k w => M.conv .u64 t18 k w) (fun t19 w =>
  M.gd t8 false (fun k w => M.bin .geq t14 t19 k w) (fun t20 w =>
  M.pick t8 (Value.bool true) t20 (fun t21 w =>
  M.cond t21
  (M.call Tryz.prog 45 #[x0, (Value.int IntKind.u64 0)] (fun t23 w =>
  R t23 w) w)
  (M.draw (fun w =>
  M.nilCheck x0 (fun t26 w =>
  M.fieldAddr 0 t26 (fun t27 w =>
  M.load1 t27 (fun t28 w =>
  M.nilCheck x0 (fun t30 w =>
  M.fieldAddr 20 t30 (fun t31 w =>
  M.fieldAddr 4 t31 (fun t32 w =>
  M.load1 t32 (fun t33 w =>
  M.conv .i64 t33 (fun t34 w =>
  M.call Tryz.prog 94 #[t28, (Value.int IntKind.i64 8), t34] (fun t35 w =>
  ((M.load1 t32 (fun v' _ => v' = t33) w) ∧ M.extract 0 t35 (fun t36 w =>
  M.extract 1 t35 (fun t37 w =>
  M.call Tryz.prog 47 #[x0, t36, t37] (fun t38 w =>
  ((M.load1 t32 (fun v' _ => v' = t33) w) ∧ M.nilCheck x0 (fun t40 w =>
  M.fieldAddr 28 t40 (fun t41 w =>
  M.load1 t41 (fun t42 w =>
  M.bin .neq t42 (Value.int IntKind.i64 0) (fun t43 w =>
  M.cond t43
  (R (Value.int IntKind.i64 0) w)
  (M.nilCheck x0 (fun t46 w =>
  M.fieldAddr 0 t46 (fun t47 w =>
  M.load1 t47 (fun t48 w =>
  M.call Tryz.prog 86 #[t48, t38, (Value.int IntKind.i64 64), (Value.bool false)] (fun t50 w =>
  M.extract 0 t50 (fun t51 w =>
  M.extract 1 t50 (fun t52 w =>
  M.call Tryz.prog 47 #[x0, t51, t52] (fun t53 w =>
  R t53 w) w) w) w) w) w) w) w)) w) w) w) w)) w) w) w)) w) w) w) w) w) w) w) w) w) w)) w) w) w) w) w) w) w) w) w) w) w) w) w) w) w) w) w
theorem ok53 (x0 : Value) (R : Kt) (w : World) (h : sh53 x0 R w) : Ret Tryz.prog 53 #[x0] w R :=
  ret_mk <| calls_of_comp mixed (c := Tryz.f53.body.getD .skip) (args := [x0]) (rs := [(ResultVar.tmp 2)]) (Ann.seq Ann.text (Ann.seq (Ann.seq (Ann.draw (Sch.take 0 (Sch.take 1 (Sch.take 2 (Sch.take 3 (Sch.take 4 (Sch.take 5 (Sch.take 6 (Sch.take 7 (Sch.take 8 (Sch.take 9 (Sch.take 10 (Sch.take 11 (Sch.take 12 (Sch.take 13 (Sch.take 14 (Sch.take 15 (Sch.take 16 (Sch.take 17 Sch.done))))))))))))))))))) (Ann.cond (Ann.seq Ann.text Ann.leaf) Ann.leaf)) (Ann.seq (Ann.draw (Sch.take 0 (Sch.take 1 (Sch.take 2 (Sch.take 3 (Sch.take 4 (Sch.take 5 (Sch.take 6 (Sch.take 7 (Sch.take 8 (Sch.take 9 (Sch.take 10 (Sch.one 11 (Sch.take 12 (Sch.take 13 (Sch.one 14 (Sch.take 15 Sch.done))))))))))))))))) (Ann.seq (Ann.seq Ann.text (Ann.cond (Ann.seq Ann.text Ann.leaf) Ann.leaf)) (Ann.seq Ann.text Ann.leaf)))))
    Tryz.func53 (by kernel_rfl) (by kernel_rfl)
    (Eq.mp (by kernel_rfl) h)
def sh46 (x0 : Value) (R : Kt) (w : World) : Prop :=
  M.nilCheck x0 (fun t6 w =>
  M.fieldAddr 20 t6 (fun t7 w =>
  M.fieldAddr 4 t7 (fun t8 w =>
  M.load1 t8 (fun t9 w =>
  M.conv .i64 t9 (fun t10 w =>
  M.draw (fun w =>
  M.nilCheck x0 (fun t13 w =>
  M.fieldAddr 0 t13 (fun t14 w =>
  M.load1 t14 (fun t15 w =>
  M.nilCheck x0 (fun t19 w =>
  M.fieldAddr 20 t19 (fun t20 w =>
  M.fieldAddr 2 t20 (fun t21 w =>
  M.load1 t21 (fun t22 w =>
  M.nilCheck x0 (fun t23 w =>
  M.fieldAddr 1 t23 (fun t24 w =>
  M.fieldAddr 0 t24 (fun t25 w =>
  M.indexArr 8 1 t25 t22 (fun t26 w =>
  M.load1 t26 (fun t27 w =>
  M.nilCheck x0 (fun t30 w =>
  M.fieldAddr 20 t30 (fun t31 w =>
  M.fieldAddr 3 t31 (fun t32 w =>
  M.load1 t32 (fun t33 w =>
  M.nilCheck x0 (fun t34 w =>
  M.fieldAddr 1 t34 (fun t35 w =>
  M.fieldAddr 0 t35 (fun t36 w =>
  M.indexArr 8 1 t36 t33 (fun t37 w =>
  M.load1 t37 (fun t38 w =>
  M.call Tryz.prog 85 #[t15, t10, t27, t38] (fun t39 w =>
  ((M.load1 t32 (fun v' _ => v' = t33) w) ∧ ((M.load1 t21 (fun v' _ => v' = t22) w) ∧ M.extract 0 t39 (fun t40 w =>
  M.extract 1 t39 (fun t41 w =>
  M.call Tryz.prog 47 #[x0, t40, t41] (fun t42 w =>
  ((M.load1 t32 (fun v' _ => v' = t33) w) ∧ ((M.load1 t21 (fun v' _ => v' = t22) w) ∧ M.share (fun K1 w =>
  M.nilCheck x0 (fun t44 w =>
  M.fieldAddr 28 t44 (fun t45 w =>
  M.load1 t45 (fun t46 w =>
  M.bin .eql t46 (Value.int IntKind.i64 0) (fun t47 w =>
  M.gd t47 true (fun k w => k t10 w) (fun t49 w =>
  M.gd t47 true (fun k w => M.bin .eql t49 (Value.int IntKind.i64 12) k w) (fun t50 w =>
  M.gd t47 true (fun k w => k t50 w) (fun t51 w =>
  M.gd t51 false (fun k w => k t10 w) (fun t52 w =>
  M.gd t51 false (fun k w => M.bin .eql t52 (Value.int IntKind.i64 13) k w) (fun t53 w =>
  M.gd t47 true (fun k w => M.pick t51 (Value.bool true) t53 k w) (fun t54 w =>
  M.gd t47 true (fun k w => k t54 w) (fun t55 w =>
  M.gd t55 false (fun k w => k t10 w) (fun t56 w =>
  M.gd t55 false (fun k w => M.bin .eql t56 (Value.int IntKind.i64 14) k w) (fun t57 w =>
  M.gd t47 true (fun k w => M.pick t55 (Value.bool true) t57 k w) (fun t58 w =>
  M.pick t47 t58 (Value.bool false) (fun t59 w =>
  M.cond t59
  (M.nilCheck x0 (fun t62 w =>
  M.fieldAddr 0 t62 (fun t63 w =>
  M.load1 t63 (fun t64 w =>
  M.call Tryz.prog 86 #[t64, t42, (Value.int IntKind.i64 64), (Value.bool false)] (fun t66 w =>
  M.extract 0 t66 (fun t67 w =>
  M.extract 1 t66 (fun t68 w =>
  M.call Tryz.prog 47 #[x0, t67, t68] (fun t69 w =>
  K1 [t69] w) w) w) w) w) w) w) w)
  (K1 [t42] w)) w) w) w) w) w) w) w) w) w) w) w) w) w) w) w) (fun s1 w => ∀ _ : List Value,
  R (s1.getD 0 undef) w) w))) w) w) w))) w) w) w) w) w) w) w) w) w) w) w) w) w) w) w) w) w) w) w) w) w) w) w) w) w) w) w) w
theorem ok46 (x0 : Value) (R : Kt) (w : World) (h : sh46 x0 R w) : Ret Tryz.prog 46 #[x0] w R :=
  ret_mk <| calls_of_comp mixed (c := Tryz.f46.body.getD .skip) (args := [x0]) (rs := [(ResultVar.tmp 2)]) (Ann.seq Ann.text (Ann.seq Ann.text (Ann.seq (Ann.draw (Sch.take 0 (Sch.take 1 (Sch.take 2 (Sch.take 3 (Sch.take 4 (Sch.take 5 (Sch.take 6 (Sch.take 7 (Sch.take 8 (Sch.take 9 (Sch.take 10 (Sch.take 11 (Sch.take 12 (Sch.take 13 (Sch.take 14 (Sch.take 15 (Sch.take 16 (Sch.take 17 (Sch.take 18 (Sch.take 19 (Sch.take 20 (Sch.take 21 (Sch.take 22 (Sch.take 23 (Sch.take 24 (Sch.take 25 (Sch.take 26 (Sch.take 27 (Sch.one 28 (Sch.take 29 (Sch.take 30 (Sch.one 31 (Sch.take 32 Sch.done)))))))))))))))))))))))))))))))))) (Ann.join [4] [43, 44, 45, 46, 47, 48, 49, 50, 51, 52, 53, 54, 55, 56, 57, 58, 59, 60, 61, 62, 63, 64, 65, 66, 67, 68, 69] (Ann.seq Ann.text (Ann.cond Ann.text Ann.leaf)) (Ann.seq Ann.text Ann.leaf)))))
    Tryz.func46 (by kernel_rfl) (by kernel_rfl)
    (Eq.mp (by kernel_rfl) h)
def sh50 (x0 : Value) (R : Kt) (w : World) : Prop :=
  M.draw (fun w =>
  M.nilCheck x0 (fun t6 w =>
  M.fieldAddr 20 t6 (fun t7 w =>
  M.fieldAddr 1 t7 (fun t8 w =>
  M.load1 t8 (fun t9 w =>
  M.nilCheck x0 (fun t10 w =>
  M.fieldAddr 1 t10 (fun t11 w =>
  M.fieldAddr 0 t11 (fun t12 w =>
  M.indexArr 8 1 t12 t9 (fun t13 w =>
  M.load1 t13 (fun t14 w =>
  M.call Tryz.prog 88 #[x0, t14, (Value.int IntKind.u64 0)] (fun t15 w =>
  ((M.load1 t8 (fun v' _ => v' = t9) w) ∧ M.call Tryz.prog 49 #[x0] (fun t18 w =>
  M.call Tryz.prog 89 #[x0, t15] (fun t21 w =>
  M.call Tryz.prog 43 #[x0, t18, t21] (fun t22 w =>
  M.call Tryz.prog 84 #[x0] (fun t25 w =>
  M.call Tryz.prog 43 #[x0, t25, t15] (fun t27 w =>
  R (.tuple #[]) w) w) w) w) w) w)) w) w) w) w) w) w) w) w) w) w) w
theorem ok50 (x0 : Value) (R : Kt) (w : World) (h : sh50 x0 R w) : Ret Tryz.prog 50 #[x0] w R :=
  ret_mk <| calls_of_comp mixed (c := Tryz.f50.body.getD .skip) (args := [x0]) (rs := []) (Ann.seq (Ann.draw (Sch.take 0 (Sch.take 1 (Sch.take 2 (Sch.take 3 (Sch.take 4 (Sch.take 5 (Sch.take 6 (Sch.take 7 (Sch.take 8 (Sch.take 9 (Sch.take 10 (Sch.take 11 (Sch.one 12 (Sch.take 13 Sch.done))))))))))))))) (Ann.seq Ann.text Ann.text))
    Tryz.func50 (by kernel_rfl) (by kernel_rfl)
    (Eq.mp (by kernel_rfl) h)
section
variable {w : World} {F : Nat → Prop} {p pb : Nat} {N : List Nd} {most : Int} {s : Sy} {sv : List Value} {i : Ins} {inputs mw : Int} {ov : Value} {outs : List Sy} {e : Int} {c a b d : Value}
theorem SyO.back {t : Nat} {w0 : World} {t' : Sy} {c a b d : Value} (hF : ∀ x, w0.heap.size ≤ x → Fr Z F pb ov x) : True := trivial
theorem putN_len (pend : List SP) : ∀ (disk : List Int), (putN disk pend).length = disk.length := by
  unfold putN
  induction pend with
  | nil => intro disk; rfl
  | cons x l ih =>
    intro disk
    rw [List.foldl_cons, ih]
    split <;> simp
theorem flush37_ret (h : Stp Z w F p pb N most s sv i inputs mw ov [] e) (hsv : sv = s.vals c a b d) (hB : Bnd s) :
    Ret Tryz.prog 56 #[ptr pb] w (Adds Z w F p pb most s sv i inputs mw ov (plainR N e s.flush)) := by
  have hdl := hB.disk
  have hpl := hB.pend
  refine ok56 _ _ _ ?_
  unfold sh56
  have hca := h.ca hsv
  (repeat (first|refine jb ?_|refine jc ?_|refine jM (by assumption) ?_))
  refine M.call_i (clone37_ret (h.lists hsv).2.1.1 (by omega)) ?_
  rintro va w1 ⟨g1, k1⟩
  have h1 := h.keepN k1
  obtain ⟨A1, cA1, eA1, _, _⟩ := GI.lv g1
  refine M.pure_i (.agg ⟨[va, .slice none 0 0, vi 0]⟩) (fun _ => by rw [eA1]; kernel_rfl) ?_
  refine M.new_i (l := [.slice none 0 0, .slice none 0 0, vi 0]) (fun w2 b2 k2 s2 => ?_)
  have g2 := g1.keep k2 (fun _ _ _ h => h)
  refine M.storeAll_i (vs := [va, .slice none 0 0, vi 0]) b2 rfl rfl (by
    simp only [List.mem_cons, List.not_mem_nil, or_false, forall_eq_or_imp, forall_eq]
    exact ⟨GC.one g1, rfl, rfl⟩) (fun w3 b3 k3 s3 => ?_)
  have q1 := k1.size
  have hblk1 : ∀ x, blkOf va x → x < w1.heap.size := fun x hx => by
    obtain ⟨_, l', hl'⟩ := GC.blkOf g1 hx
    exact hl'.lt
  have g2o := (GC.own g1).keep k2 (fun _ _ _ h => h)
  have g3 := g2o.keep k3 (fun x hx hl e => by have := hblk1 x hl; have e : x = w1.heap.size := e; omega)
  have k03 : Keep w w3 No := (k1.trans k2 (fun _ _ h => h)).trans k3 (fun x hx e => by have e : x = w1.heap.size := e; omega)
  have h3 := h.keepN k03
  have hge : ∀ x, blkOf va x → w.heap.size ≤ x := fun x hx => (GC.blkOf g1 hx).1
  have hcb := h3.cb hsv
  obtain ⟨B, cB, eb, hrb, hcB⟩ := (h3.lists hsv).2.1.2
  (repeat (first|refine jb ?_|refine jc ?_|refine jM (by assumption) ?_))
  rw [eb]
  (repeat (refine ja ?_))
  refine M.loop_i (σ := Nat) (fun j vals w' => vals = [vi j] ∧ j ≤ s.dev.pend.length ∧ GI w' (blkOf va) va (putN s.dev.disk (s.dev.pend.take j)) ∧ Blk w' w1.heap.size [va, .slice none 0 0, vi 0] ∧ Keep w3 w' (blkOf va)) (fun j => s.dev.pend.length - j) 0 ⟨rfl, by omega, g3, b3, Keep.refl _ _⟩ ?_
  rintro j vals w4 K ⟨rfl, hj, g4, b4, k4⟩ hK _
  simp only [List.getD_cons_zero, List.getD_cons_succ]
  have k04 : Keep w w4 No := k03.trans k4 (fun x hx e => by have := hge x e; omega)
  by_cases hlt : j < s.dev.pend.length
  · obtain ⟨y, hy⟩ : ∃ y, s.dev.pend[j]? = some y := ⟨_, List.getElem?_eq_getElem hlt⟩
    have et : putN s.dev.disk (s.dev.pend.take (j + 1)) = (if 0 ≤ y.b ∧ y.b < ((putN s.dev.disk (s.dev.pend.take j)).length : Int) then (putN s.dev.disk (s.dev.pend.take j)).set y.b.toNat y.v else putN s.dev.disk (s.dev.pend.take j)) := by
      unfold putN
      rw [List.take_add_one, hy, List.foldl_append]; rfl
    have hrb0 := (h.lists hsv).2.1.2
    rw [eb] at hrb0
    obtain ⟨B', cB', eb', hrb', _⟩ := hrb0
    simp only [Value.slice.injEq] at eb'
    obtain ⟨rfl, _, rfl⟩ := eb'
    have hrb4 := hrb'.keep k04 (fun _ _ _ h => h)
    have hlen := putN_len (s.dev.pend.take j) s.dev.disk
    (repeat (first|refine jo ?_|refine jy ?_))
    refine M.share_j (fun vals w' => vals = [] ∧ GI w' (blkOf va) va (putN s.dev.disk (s.dev.pend.take (j + 1))) ∧ Blk w' w1.heap.size [va, .slice none 0 0, vi 0] ∧ Keep w3 w' (blkOf va)) ?_ ?_
    · rintro vals w' ⟨rfl, g', b', k'⟩ _
      (repeat (refine jK ?_))
      exact hK (j + 1) _ _ (by omega) ⟨rfl, by omega, g', b', k'⟩
    · intro K2 hK2
      refine M.idxF_i sp_len (by omega) hrb4 rfl (by omega) (x := y) (by rw [Int.toNat_natCast]; exact hy) (fun bb oo hcc => ?_)
      refine M.load3_i (hcc 0 (vi y.b) rfl) (hcc 1 (vi y.v) rfl) (hcc 2 (vi y.e) rfl) ?_
      refine M.new_i (l := [vi 0, vi 0, vi 0]) (fun w5 b5 k5 s5 => ?_)
      have b4' := b4.keep k5 (fun h => h)
      have g5 := g4.keep k5 (fun _ _ _ h => h)
      have hb4 := b4.lt
      refine M.storeAll_i (vs := [vi y.b, vi y.v, vi y.e]) b5 rfl rfl (by intro z hz; simp at hz; rcases hz with rfl | rfl | rfl <;> rfl) (fun w6 b6 k6 s6 => ?_)
      have b6' := b4'.keep k6 (fun e => by have e : w1.heap.size = w4.heap.size := e; omega)
      have hbv4 : ∀ x, blkOf va x → x < w4.heap.size := fun x hx => by
        obtain ⟨_, l', hl'⟩ := GC.blkOf g4 hx
        exact hl'.lt
      have g6 := g5.keep k6 (fun x hx hl e => by have := hbv4 x hl; have e : x = w4.heap.size := e; omega)
      have k46 : Keep w3 w6 (blkOf va) := (k4.trans k5 (fun _ _ h => h.elim)).trans k6 (fun x hx e => by have e : x = w4.heap.size := e; have := k4.size; omega)
      obtain ⟨A, cA, eA, hA, _⟩ := GI.lv g6
      by_cases hy0 : 0 ≤ y.b
      · rw [eA] at b6'
        by_cases hyl : y.b < ((putN s.dev.disk (s.dev.pend.take j)).length : Int)
        · rw [if_pos ⟨hy0, hyl⟩] at et
          (repeat (first|refine ja ?_|refine jc ?_|refine jf ?_|refine jk ?_|refine jo ?_|refine jy ?_|refine jE ?_|refine jN (by assumption) rfl ?_))
          rw [← eA]
          refine M.idxStore_i g6 hy0 hyl (fun w7 g7 k7 s7 => ?_)
          rw [← et] at g7
          rw [← eA] at b6'
          exact hK2 [] w7 ⟨rfl, g7, b6'.keep k7 (fun hx => by have := hblk1 _ hx; omega), k46.trans k7 (fun _ _ h => h)⟩
        · rw [if_neg (fun h => hyl h.2)] at et
          (repeat (first|refine ja ?_|refine jc ?_|refine jf ?_|refine jk ?_|refine jp ?_|refine jz ?_|refine jE ?_|refine jN (by assumption) rfl ?_))
          rw [← eA] at b6'
          exact hK2 [] w6 ⟨rfl, by rw [et]; exact g6, b6', k46⟩
      · rw [if_neg (fun h => hy0 h.1)] at et
        (repeat (first|refine jc ?_|refine jh ?_|refine jl ?_|refine jp ?_|refine jF ?_|refine jN (by assumption) rfl ?_))
        exact hK2 [] w6 ⟨rfl, by rw [et]; exact g6, b6', k46⟩
  · have ej : j = s.dev.pend.length := by omega
    subst ej
    rw [List.take_length] at g4
    (repeat (first|refine jp ?_|refine jz ?_))
    refine M.loadAll_i b4 rfl ?_
    have h4 := h.keepN k04
    have hv : SDvO w4 (Fr Z F pb ov) va (.slice none 0 0) ⟨putN s.dev.disk s.dev.pend, [], 0⟩ := ⟨(GI.lv g4).mono (fun x _ hx => h.fresh (hge x hx)), LN.nil _ _ _⟩
    refine M.call_i (call37_ret (v := ⟨putN s.dev.disk s.dev.pend, [], 0⟩) h4 hsv hB.pc hB.calls hv) ?_; rintro _ w5 ⟨rfl, k5⟩
    have h5 := h4.keepN k5
    have h8' : s.flush.regs.length = 8 := h.sy.1
    have hs5 : SyO w5 (Fr Z F pb ov) (.agg ⟨s.flush.vals c va (.slice none 0 0) d⟩) s.flush := SyO.of_vals h8' ⟨(h5.lists hsv).1, hv.keep k5 (fun _ _ _ h => h), (h5.lists hsv).2.2⟩
    refine M.call_i (add37_ret h5 hs5 hB.conds (by simp) (-1)) ?_
    rintro _ w6 ⟨rfl, ov6, h6, m6⟩
    exact ⟨rfl, F, ov6, h6, (Mv.none (k04.trans k5 (fun _ _ h => h))).trans m6⟩
end
end Go.Proofs.YtanjlgafjgoaaaaGreat
namespace Go.Proofs.YtanjlgafjgoaaaaGreat
open Go.Mw
set_option linter.unusedVariables false
set_option linter.unusedSimpArgs false
set_option maxRecDepth 100000
attribute [local irreducible] M.val M.unit M.next M.pick M.new M.nilCheck M.load1 M.loadA M.store M.fieldAddr M.indexSl M.indexArr M.slice M.makeSlice M.buildSlice M.len M.lenS M.cap M.append M.extract M.conv M.not M.neg M.bin M.shift M.eqB M.eqNil M.scat M.call M.callv M.gd M.share M.cond M.loop M.draw pureW readW Ret
variable {Z : Nat → Prop}
section
variable {w : World} {F : Nat → Prop} {p pb : Nat} {N : List Nd} {most : Int} {s : Sy} {sv : List Value} {i : Ins} {inputs mw : Int} {ov : Value} {outs : List Sy} {e : Int} {c a b d : Value}
theorem barrier1_ret {t : Nat} {x y : Value} {ep : Int} (hb : Blk w t [x, y, vi ep]) (z : SP) : Ret Tryz.prog 100 #[.agg ⟨z.cells⟩, ptr t] w (fun r w' => r = .bool (decide (z.e = ep)) ∧ Keep w w' No) := by
  refine ok100 _ _ _ _ ?_
  unfold sh100
  refine M.new_i (l := [vi z.b, vi z.v, vi z.e]) (fun w1 b1 k1 s1 => ?_)
  have hb1 := hb.keep k1 (fun h => h)
  by_cases hz : z.e = ep
  · (repeat (first|refine jc ?_|refine jG ?_|refine jN (by assumption) rfl ?_))
    exact ⟨by rw [decide_eq_true hz], k1⟩
  · (repeat (first|refine jc ?_|refine jH ?_|refine jN (by assumption) rfl ?_))
    exact ⟨by rw [decide_eq_false hz], k1⟩
theorem indexP_ret {D : Nat → Prop} {t : Nat} {x y v : Value} {ep : Int} {xs : List SP} (hb : Blk w t [x, y, vi ep]) (hl : LN SP.cells w D v xs) (hf : xs.length ≤ 100000) :
    Ret Tryz.prog 99 #[v, .func (.func 100) #[] #[ptr t]] w (fun r w' => r = .bool (xs.any (fun z => decide (z.e = ep))) ∧ Keep w w' No) := by
  obtain ⟨A, cA, rfl, hr, _⟩ := hl
  refine ok99 _ _ _ _ ?_
  unfold sh99
  refine M.call_i (Q := fun r w' => ∃ z : Int, r = vi z ∧ (0 ≤ z ↔ xs.any (fun z => decide (z.e = ep)) = true) ∧ Keep w w' No) ?_ ?_
  · refine ok119 _ _ _ _ ?_
    unfold sh119
    (repeat (refine ja ?_))
    refine M.loop_i (σ := Nat) (fun j vals w' => vals = [vi j] ∧ j ≤ xs.length ∧ (xs.take j).any (fun z => decide (z.e = ep)) = false ∧ Keep w w' No) (fun j => xs.length - j) 0 ⟨rfl, by omega, by simp, Keep.refl _ _⟩ ?_
    rintro j vals w1 K ⟨rfl, hj, hno, k1⟩ hK _
    simp only [List.getD_cons_zero, List.getD_cons_succ]
    by_cases hlt : j < xs.length
    · obtain ⟨z, hz⟩ : ∃ z, xs[j]? = some z := ⟨_, List.getElem?_eq_getElem hlt⟩
      have et : xs.take (j + 1) = xs.take j ++ [z] := by rw [List.take_add_one, hz]; rfl
      (repeat (first|refine jo ?_|refine jy ?_))
      refine M.idxF_i sp_len (by omega) (hr.keep k1 (fun _ _ _ h => h)) rfl (by omega) (x := z) (by rw [Int.toNat_natCast]; exact hz) (fun bb oo hcc => ?_)
      refine M.load3_i (hcc 0 (vi z.b) rfl) (hcc 1 (vi z.v) rfl) (hcc 2 (vi z.e) rfl) ?_
      refine M.callv_i (fun _ _ => rfl) (barrier1_ret (hb.keep k1 (fun h => h)) z) ?_
      rintro _ w2 ⟨rfl, k2⟩
      have k02 := k1.trans k2 (fun _ _ h => h)
      by_cases hze : z.e = ep
      · rw [decide_eq_true hze]
        (repeat (refine jo ?_))
        refine ⟨(j : Nat), rfl, ⟨fun _ => ?_, fun _ => by omega⟩, k02⟩
        exact List.any_eq_true.2 ⟨z, List.mem_of_getElem? hz, by simpa using hze⟩
      · rw [decide_eq_false hze]
        (repeat (first|refine jp ?_|refine jK ?_))
        exact hK (j + 1) _ _ (by omega) ⟨rfl, by omega, by rw [et, List.any_append, hno]; simp [hze], k02⟩
    · have e : j = xs.length := by omega
      subst e
      rw [List.take_length] at hno
      (repeat (first|refine jp ?_|refine jz ?_))
      exact ⟨-1, rfl, ⟨fun h => absurd h (by decide), fun h => by rw [hno] at h; cases h⟩, k1⟩
  · rintro _ w1 ⟨z, rfl, hz, k1⟩
    cases hany : xs.any (fun z => decide (z.e = ep)) with
    | true =>
      have := hz.2 hany
      (repeat (refine jE ?_))
      exact ⟨rfl, k1⟩
    | false =>
      have : ¬ 0 ≤ z := fun h => by have := hz.1 h; rw [hany] at this; cases this
      (repeat (refine jF ?_))
      exact ⟨rfl, k1⟩
theorem barrier37_ret (h : Stp Z w F p pb N most s sv i inputs mw ov [] e) (hsv : sv = s.vals c a b d) (hB : Bnd s) :
    Ret Tryz.prog 57 #[ptr pb] w (Adds Z w F p pb most s sv i inputs mw ov (plainR N e (s.call (barN s.dev)))) := by
  obtain ⟨o1, o2, o3, o4⟩ := h.one4 hsv
  have hep := hB.ep
  refine ok57 _ _ _ ?_
  unfold sh57
  have c1 := h.ca hsv
  have c2 := h.cb hsv
  have c3 := h.cep hsv
  (repeat (first|refine jb ?_|refine jc ?_))
  refine M.load3_i c1 c2 c3 ?_
  refine M.new_i (l := [.slice none 0 0, .slice none 0 0, vi 0]) (fun w1 b1 k1 s1 => ?_)
  refine M.storeAll_i (vs := [a, b, vi s.dev.ep]) b1 rfl rfl (by
    simp only [List.mem_cons, List.not_mem_nil, or_false, forall_eq_or_imp, forall_eq]
    exact ⟨o2, o3, rfl⟩) (fun w2 b2 k2 s2 => ?_)
  have k02 : Keep w w2 No := k1.trans k2 (fun x hx e => by have e : x = w.heap.size := e; omega)
  have h2 := h.keepN k02
  refine M.share_j (fun vals w' => vals = [] ∧ Blk w' w.heap.size [a, b, vi (barN s.dev).ep] ∧ Keep w w' No) ?_ ?_
  · rintro vals w3 ⟨rfl, b3, k3⟩ _
    refine M.loadAll_i b3 rfl ?_
    have h3 := h.keepN k3
    have hd1 : (barN s.dev).disk = s.dev.disk := by unfold barN; split <;> rfl
    have hd2 : (barN s.dev).pend = s.dev.pend := by unfold barN; split <;> rfl
    have hv : SDvO w3 (Fr Z F pb ov) a b (barN s.dev) := SDvO.ep' (h3.lists hsv).2.1 hd1 hd2
    refine M.call_i (call37_ret h3 hsv hB.pc hB.calls hv) ?_; rintro _ w4 ⟨rfl, k4⟩
    have h4 := h3.keepN k4
    have h8' : (s.call (barN s.dev)).regs.length = 8 := h.sy.1
    have hs4 : SyO w4 (Fr Z F pb ov) (.agg ⟨(s.call (barN s.dev)).vals c a b d⟩) (s.call (barN s.dev)) := SyO.of_vals h8' ⟨(h4.lists hsv).1, hv.keep k4 (fun _ _ _ h => h), (h4.lists hsv).2.2⟩
    refine M.call_i (add37_ret h4 hs4 hB.conds (by simp) (-1)) ?_
    rintro _ w5 ⟨rfl, ov5, h5, m5⟩
    exact ⟨rfl, F, ov5, h5, (Mv.none (k3.trans k4 (fun _ _ h => h))).trans m5⟩
  · intro K hK
    (repeat (first|refine jc ?_|refine jN (by assumption) rfl ?_))
    refine M.call_i (indexP_ret b2 (h2.lists hsv).2.1.2 hB.pend) ?_; rintro _ w3 ⟨rfl, k3⟩
    have b3 := b2.keep k3 (fun h => h)
    have k03 := k02.trans k3 (fun _ _ h => h)
    have eb : (barN s.dev).ep = if s.dev.pend.any (fun w => decide (w.e = s.dev.ep)) then s.dev.ep + 1 else s.dev.ep := by unfold barN; split <;> rfl
    cases hany : s.dev.pend.any (fun w => decide (w.e = s.dev.ep)) with
    | true =>
      rw [hany, if_pos rfl] at eb
      (repeat (first|refine jc ?_|refine jo ?_|refine jK ?_|refine jN (by assumption) rfl ?_))
      refine M.store_i b3 (by simp) rfl (fun w4 b4 k4 s4 => ?_)
      exact hK [] w4 ⟨rfl, by rw [eb]; exact b4, k03.trans k4 (fun x hx e => by have e : x = w.heap.size := e; omega)⟩
    | false =>
      rw [hany, if_neg (by decide)] at eb
      (repeat (refine jp ?_))
      exact hK [] w3 ⟨rfl, by rw [eb]; exact b3, k03⟩
theorem input37_ret (h : Stp Z w F p pb N most s sv i inputs mw ov outs e) (hin : inputs ≤ 1000000) (hI : inputs < 0 ∨ i.imm.toNat < 1000000) :
    Ret Tryz.prog 53 #[ptr pb] w (Idd Z w F p pb most s sv i inputs mw ov outs (inputP most N e i inputs)) := by
  refine ok53 _ _ _ ?_
  unfold sh53
  have kd := Keep.drew w No
  have hd := h.keepN kd
  have hcin := hd.cin
  have hcI := hd.cI
  unfold inputP
  by_cases h0 : inputs < 0
  · rw [if_pos (.inl h0)]
    (repeat (first|refine jb ?_|refine jc ?_|refine jd ?_|refine ji ?_|refine jk ?_|refine jo ?_|refine jy ?_|refine jM (by assumption) ?_))
    refine M.call_i (word37_ret hd 0) ?_
    exact fun v w' hv => hv.pre (Mv.none kd)
  · obtain ⟨n, rfl⟩ : ∃ n : Nat, inputs = (n : Int) := ⟨inputs.toNat, by omega⟩
    by_cases h1 : (n : Int) ≤ (i.imm.toNat : Int)
    · rw [if_pos (.inr h1)]
      (repeat (first|refine jb ?_|refine jc ?_|refine jd ?_|refine jg ?_|refine jz ?_|refine jM (by assumption) ?_))
      refine M.u64_i (by omega) ?_
      (repeat (first|refine jg ?_|refine jl ?_|refine jo ?_|refine jE ?_))
      refine M.call_i (word37_ret hd 0) ?_
      exact fun v w' hv => hv.pre (Mv.none kd)
    · rw [if_neg (by omega)]
      (repeat (first|refine jb ?_|refine jc ?_|refine jd ?_|refine jg ?_|refine jz ?_|refine jM (by assumption) ?_))
      refine M.u64_i (by omega) ?_
      have kd2 := Keep.drew w.drew No
      have h2 := hd.keepN kd2
      have hcp := h2.cp
      have hcI2 := h2.cI
      (repeat (first|refine jb ?_|refine jc ?_|refine jd ?_|refine jg ?_|refine jl ?_|refine jp ?_|refine jF ?_|refine jM (by assumption) ?_))
      refine M.toIntW_i ?_
      have eI : i.imm.toInt = (i.imm.toNat : Int) := by rw [BitVec.toInt_eq_toNat_cond]; rw [if_pos (by omega)]
      rw [eI]
      refine M.call_i (var_ret h2.dag 8 (i.imm.toNat : Int)) ?_; rintro _ w3 ⟨F3, rfl, d3, f3, k3⟩
      obtain ⟨h3, m3⟩ := h2.ask d3 f3 k3
      have hcI3 := h3.cI
      (repeat (refine jO (by assumption) ?_))
      refine M.extract_i rfl ?_
      refine M.extract_i rfl ?_
      refine M.call_i (keep37_ret h3 _ _) ?_
      rintro _ w4 ⟨rfl, F4, h4, m4⟩
      have hcI4 := h4.cI
      have hce4 := h4.ce
      have m04 : Mv w F pb ov w4 F4 ov := (Mv.none (kd.trans kd2 (fun _ _ h => h))).trans (m3.trans m4)
      by_cases hx : (kp e (varN most N 8 (i.imm.toNat : Int))).2.2 = 0
      · have hx' : (kp e ((varN most N 8 (i.imm.toNat : Int)).1, (varN most N 8 (i.imm.toNat : Int)).2.1, (varN most N 8 (i.imm.toNat : Int)).2.2)).2.2 = 0 := hx
        have hcp4 := h4.cp
        (repeat (first|refine jb ?_|refine jc ?_|refine jp ?_|refine jJ ?_|refine jM (by assumption) ?_|refine jO (by assumption) ?_))
        simp only [hx, ne_eq, not_true_eq_false, if_false]
        refine M.call_i (foldExt_ret h4.dag _ 64) ?_; rintro _ w5 ⟨F5, rfl, d5, f5, k5⟩
        refine M.extract_i rfl ?_
        refine M.extract_i rfl ?_
        obtain ⟨h5, m5⟩ := h4.ask d5 f5 k5
        refine M.call_i (keep37_ret h5 _ _) ?_
        intro v w6 hv
        have := hv.pre (m04.trans m5)
        rw [hx'] at this
        exact this
      · have hx' : ¬ (kp e ((varN most N 8 (i.imm.toNat : Int)).1, (varN most N 8 (i.imm.toNat : Int)).2.1, (varN most N 8 (i.imm.toNat : Int)).2.2)).2.2 = 0 := hx
        (repeat (first|refine jb ?_|refine jc ?_|refine jo ?_|refine jI ?_|refine jM (by assumption) ?_|refine jO (by assumption) ?_))
        simp only [hx, ne_eq, not_false_eq_true, if_true]
        exact ⟨rfl, F4, h4, m04⟩
theorem binary37_ret (h : Stp Z w F p pb N most s sv i inputs mw ov outs e) (hR : RegsOk i) (hI : i.imm.toNat < 1000000) :
    Ret Tryz.prog 46 #[ptr pb] w (Idd Z w F p pb most s sv i inputs mw ov outs (binP most N e s i)) := by
  refine ok46 _ _ _ ?_
  unfold sh46
  have hcI := h.cI
  (repeat (first|refine jb ?_|refine jc ?_|refine jM (by assumption) ?_))
  refine M.toIntW_i ?_
  have eI : i.imm.toInt = (i.imm.toNat : Int) := by rw [BitVec.toInt_eq_toNat_cond]; rw [if_pos (by omega)]
  rw [eI]
  have kd := Keep.drew w No
  have hd := h.keepN kd
  have hcp := hd.cp
  have hcB := hd.cB
  have hcC := hd.cC
  have hrB := hd.creg hR.2.1.1 hR.2.1.2
  have hrC := hd.creg hR.2.2.1 hR.2.2.2
  (repeat (first|refine jb ?_|refine jc ?_|refine jd ?_|refine jM (by assumption) ?_))
  refine M.arr8_i hR.2.1.1 (by have := hR.2.1.2; omega) ?_
  (repeat (first|refine jb ?_|refine jc ?_|refine jM (by assumption) ?_))
  refine M.arr8_i hR.2.2.1 (by have := hR.2.2.2; omega) ?_
  (repeat (refine jM (by assumption) ?_))
  refine M.call_i (foldBin_ret hd.dag (i.imm.toNat : Int) (s.reg i.b) (s.reg i.c)) ?_; rintro _ w1 ⟨F1, rfl, d1, f1, k1⟩
  obtain ⟨h1, m1⟩ := hd.ask d1 f1 k1
  have hcB1 := h1.cB
  have hcC1 := h1.cC
  (repeat (refine jO (by assumption) ?_))
  refine M.extract_i rfl ?_
  refine M.extract_i rfl ?_
  refine M.call_i (keep37_ret h1 _ _) ?_
  rintro _ w2 ⟨rfl, F2, h2, m2⟩
  have hcB2 := h2.cB
  have hcC2 := h2.cC
  have hce2 := h2.ce
  have hcp2 := h2.cp
  have m02 : Mv w F pb ov w2 F2 ov := (Mv.none kd).trans (m1.trans m2)
  unfold binP
  have hX : kp e ((foldBin most N (i.imm.toNat : Int) (s.reg i.b) (s.reg i.c)).1, (foldBin most N (i.imm.toNat : Int) (s.reg i.b) (s.reg i.c)).2.1, (foldBin most N (i.imm.toNat : Int) (s.reg i.b) (s.reg i.c)).2.2) = kp e (foldBin most N (i.imm.toNat : Int) (s.reg i.b) (s.reg i.c)) := rfl
  rw [hX] at h2 hce2 ⊢
  generalize kp e (foldBin most N (i.imm.toNat : Int) (s.reg i.b) (s.reg i.c)) = X at h2 hce2 ⊢
  (repeat (refine jO (by assumption) ?_))
  by_cases h0 : X.2.2 = 0
  · by_cases hop : i.imm.toNat = 12 ∨ i.imm.toNat = 13 ∨ i.imm.toNat = 14
    · rw [if_pos ⟨h0, hop⟩]
      refine M.share_j (fun vals w' => ∃ F', vals = [vi (kp X.2.2 (foldExt most X.1 X.2.1 64)).2.1] ∧ Stp Z w' F' p pb (kp X.2.2 (foldExt most X.1 X.2.1 64)).1 most s sv i inputs mw ov outs (kp X.2.2 (foldExt most X.1 X.2.1 64)).2.2 ∧ Mv w2 F2 pb ov w' F' ov) ?_ ?_
      · rintro vals w' ⟨F', rfl, h', m'⟩ _
        exact ⟨rfl, F', h', m02.trans m'⟩
      · intro K hK
        have go : ∀ w' (R : Prop), w' = w2 → True := fun _ _ _ => trivial
        clear go
        rcases hop with o | o | o
        all_goals
          (repeat (first|refine jb ?_|refine jc ?_|refine jf ?_|refine jg ?_|refine ji ?_|refine jk ?_|refine jl ?_|refine jo ?_|refine jG ?_|refine jH ?_|refine jM (by assumption) ?_))
          refine M.call_i (foldExt_ret h2.dag X.2.1 64) ?_; rintro _ w3 ⟨F3, rfl, d3, f3, k3⟩
          refine M.extract_i rfl ?_
          refine M.extract_i rfl ?_
          obtain ⟨h3, m3⟩ := h2.ask d3 f3 k3
          refine M.call_i (keep37_ret h3 _ _) ?_
          rintro _ w4 ⟨rfl, F4, h4, m4⟩
          exact hK _ _ ⟨F4, rfl, h4, m3.trans m4⟩
    · rw [if_neg (fun h => hop h.2)]
      refine M.share_j (fun vals w' => vals = [vi X.2.1] ∧ w2 = w') ?_ ?_
      · rintro vals w' ⟨rfl, rfl⟩ _
        exact ⟨rfl, F2, h2, m02⟩
      · intro K hK
        (repeat (first|refine jb ?_|refine jc ?_|refine jf ?_|refine jg ?_|refine jk ?_|refine jl ?_|refine jp ?_|refine jG ?_|refine jH ?_|refine jM (by assumption) ?_))
        exact hK _ _ ⟨rfl, rfl⟩
  · rw [if_neg (fun h => h0 h.1)]
    refine M.share_j (fun vals w' => vals = [vi X.2.1] ∧ w2 = w') ?_ ?_
    · rintro vals w' ⟨rfl, rfl⟩ _
      exact ⟨rfl, F2, h2, m02⟩
    · intro K hK
      (repeat (first|refine jb ?_|refine jc ?_|refine jh ?_|refine jj ?_|refine jl ?_|refine jp ?_|refine jH ?_|refine jM (by assumption) ?_))
      exact hK _ _ ⟨rfl, rfl⟩
theorem branch37_ret (h : Stp Z w F p pb N most s sv i inputs mw ov [] e) (hsv : sv = s.vals c a b d) (hB : Bnd s) (hR : RegsOk i) (hI : i.imm.toNat < 1000000) :
    Ret Tryz.prog 50 #[ptr pb] w (Adds Z w F p pb most s sv i inputs mw ov (branchP most N e s i)) := by
  refine ok50 _ _ _ ?_
  unfold sh50
  have kd := Keep.drew w No
  have hd := h.keepN kd
  have hcA := hd.cA
  have hrA := hd.creg hR.1.1 hR.1.2
  (repeat (first|refine jb ?_|refine jc ?_|refine jd ?_|refine jM (by assumption) ?_))
  refine M.arr8_i hR.1.1 (by have := hR.1.2; omega) ?_
  (repeat (refine jM (by assumption) ?_))
  refine M.call_i (is37_ret hd (s.reg i.a) 0) ?_
  rintro _ w1 ⟨rfl, F1, h1, m1⟩
  have hcA1 := h1.cA
  (repeat (refine jO (by assumption) ?_))
  refine M.call_i (at37_ret h1 hsv (by omega)) ?_; rintro _ w2 ⟨rfl, k2⟩
  have h2 := h1.keepN k2
  refine M.call_i (not37_ret h2 _) ?_
  rintro _ w3 ⟨rfl, F3, h3, m3⟩
  have ha3 : SyO w3 (Fr Z F3 pb ov) (.agg ⟨(s.at i).vals c a b d⟩) (s.at i) := SyO.of_vals (t := s.at i) h.sy.1 (h3.lists hsv)
  refine M.call_i (add37_ret h3 ha3 hB.conds (by simp) _) ?_
  rintro _ w4 ⟨rfl, ov4, h4, m4⟩
  refine M.call_i (next37_ret h4 hsv hB.pc) ?_; rintro _ w5 ⟨rfl, k5⟩
  have h5 := h4.keepN k5
  have hn5 : SyO w5 (Fr Z F3 pb ov4) (.agg ⟨s.next.vals c a b d⟩) s.next := SyO.of_vals (t := s.next) h.sy.1 (h5.lists hsv)
  refine M.call_i (add37_ret h5 hn5 hB.conds (Nat.le_trans addP_len (by simp)) _) ?_
  rintro _ w6 ⟨rfl, ov6, h6, m6⟩
  exact ⟨rfl, F3, ov6, h6, (Mv.none kd).trans (m1.trans ((Mv.none k2).trans (m3.trans (m4.trans ((Mv.none k5).trans m6)))))⟩
end
end Go.Proofs.YtanjlgafjgoaaaaGreat
namespace Go.Proofs.YtanjlgafjgoaaaaGreat
open Go.Mw
set_option linter.unusedVariables false
set_option linter.unusedSimpArgs false
set_option maxRecDepth 100000
attribute [local irreducible] M.val M.unit M.next M.pick M.new M.nilCheck M.load1 M.loadA M.store M.fieldAddr M.indexSl M.indexArr M.slice M.makeSlice M.buildSlice M.len M.lenS M.cap M.append M.extract M.conv M.not M.neg M.bin M.shift M.eqB M.eqNil M.scat M.call M.callv M.gd M.share M.cond M.loop M.draw pureW readW Ret
variable {Z : Nat → Prop}
def sh23 (x0 : Value) (R : Kt) (w : World) : Prop :=
  M.nilCheck x0 (fun t4 w =>
  M.fieldAddr 20 t4 (fun t5 w =>
  M.fieldAddr 0 t5 (fun t6 w =>
  M.load1 t6 (fun t7 w =>
  M.share (fun K1 w =>
  M.bin .eql t7 (Value.int IntKind.i64 1) (fun t19 w =>
  M.cond t19
  (M.nilCheck x0 (fun t24 w =>
  M.fieldAddr 20 t24 (fun t25 w =>
  M.fieldAddr 4 t25 (fun t26 w =>
  M.load1 t26 (fun t27 w =>
  M.call Tryz.prog 45 #[x0, t27] (fun t28 w =>
  M.call Tryz.prog 44 #[x0, t28] (fun t29 w =>
  M.call Tryz.prog 43 #[x0, t29, (Value.int IntKind.i64 (-1))] (fun t30 w =>
  K1 [] w) w) w) w) w) w) w) w)
  (M.bin .eql t7 (Value.int IntKind.i64 2) (fun t32 w =>
  M.cond t32
  (M.draw (fun w =>
  M.nilCheck x0 (fun t37 w =>
  M.fieldAddr 20 t37 (fun t38 w =>
  M.fieldAddr 2 t38 (fun t39 w =>
  M.load1 t39 (fun t40 w =>
  M.nilCheck x0 (fun t41 w =>
  M.fieldAddr 1 t41 (fun t42 w =>
  M.fieldAddr 0 t42 (fun t43 w =>
  M.indexArr 8 1 t43 t40 (fun t44 w =>
  M.load1 t44 (fun t45 w =>
  M.call Tryz.prog 44 #[x0, t45] (fun t46 w =>
  ((M.load1 t39 (fun v' _ => v' = t40) w) ∧ M.call Tryz.prog 43 #[x0, t46, (Value.int IntKind.i64 (-1))] (fun t47 w =>
  ((M.load1 t39 (fun v' _ => v' = t40) w) ∧ K1 [] w)) w)) w) w) w) w) w) w) w) w) w) w) w)
  (M.bin .eql t7 (Value.int IntKind.i64 3) (fun t49 w =>
  M.cond t49
  (M.call Tryz.prog 46 #[x0] (fun t53 w =>
  M.call Tryz.prog 44 #[x0, t53] (fun t54 w =>
  M.call Tryz.prog 43 #[x0, t54, (Value.int IntKind.i64 (-1))] (fun t55 w =>
  K1 [] w) w) w) w)
  (M.bin .eql t7 (Value.int IntKind.i64 4) (fun t57 w =>
  M.cond t57
  (M.draw (fun w =>
  M.nilCheck x0 (fun t62 w =>
  M.fieldAddr 0 t62 (fun t63 w =>
  M.load1 t63 (fun t64 w =>
  M.nilCheck x0 (fun t66 w =>
  M.fieldAddr 20 t66 (fun t67 w =>
  M.fieldAddr 4 t67 (fun t68 w =>
  M.load1 t68 (fun t69 w =>
  M.conv .i64 t69 (fun t70 w =>
  M.nilCheck x0 (fun t73 w =>
  M.fieldAddr 20 t73 (fun t74 w =>
  M.fieldAddr 2 t74 (fun t75 w =>
  M.load1 t75 (fun t76 w =>
  M.nilCheck x0 (fun t77 w =>
  M.fieldAddr 1 t77 (fun t78 w =>
  M.fieldAddr 0 t78 (fun t79 w =>
  M.indexArr 8 1 t79 t76 (fun t80 w =>
  M.load1 t80 (fun t81 w =>
  M.call Tryz.prog 48 #[t64, t70, t81] (fun t82 w =>
  ((M.load1 t75 (fun v' _ => v' = t76) w) ∧ ((M.load1 t68 (fun v' _ => v' = t69) w) ∧ M.extract 0 t82 (fun t83 w =>
  M.extract 1 t82 (fun t84 w =>
  M.call Tryz.prog 47 #[x0, t83, t84] (fun t85 w =>
  ((M.load1 t75 (fun v' _ => v' = t76) w) ∧ ((M.load1 t68 (fun v' _ => v' = t69) w) ∧ M.call Tryz.prog 44 #[x0, t85] (fun t86 w =>
  ((M.load1 t75 (fun v' _ => v' = t76) w) ∧ ((M.load1 t68 (fun v' _ => v' = t69) w) ∧ M.call Tryz.prog 43 #[x0, t86, (Value.int IntKind.i64 (-1))] (fun t87 w =>
  ((M.load1 t75 (fun v' _ => v' = t76) w) ∧ ((M.load1 t68 (fun v' _ => v' = t69) w) ∧ K1 [] w))) w))) w))) w) w) w))) w) w) w) w) w) w) w) w) w) w) w) w) w) w) w) w) w) w) w)
  (M.bin .eql t7 (Value.int IntKind.i64 5) (fun t89 w =>
  M.cond t89
  (M.call Tryz.prog 49 #[x0] (fun t92 w =>
  M.call Tryz.prog 43 #[x0, t92, (Value.int IntKind.i64 (-1))] (fun t93 w =>
  K1 [] w) w) w)
  (M.bin .eql t7 (Value.int IntKind.i64 6) (fun t95 w =>
  M.cond t95
  (M.call Tryz.prog 50 #[x0] (fun t97 w =>
  K1 [] w) w)
  (M.bin .eql t7 (Value.int IntKind.i64 7) (fun t99 w =>
  M.cond t99
  (M.call Tryz.prog 51 #[x0] (fun t101 w =>
  K1 [] w) w)
  (M.bin .eql t7 (Value.int IntKind.i64 8) (fun t103 w =>
  M.cond t103
  (M.call Tryz.prog 52 #[x0] (fun t105 w =>
  K1 [] w) w)
  (M.bin .eql t7 (Value.int IntKind.i64 9) (fun t107 w =>
  M.cond t107
  (M.call Tryz.prog 53 #[x0] (fun t111 w =>
  M.call Tryz.prog 44 #[x0, t111] (fun t112 w =>
  M.call Tryz.prog 43 #[x0, t112, (Value.int IntKind.i64 (-1))] (fun t113 w =>
  K1 [] w) w) w) w)
  (M.bin .eql t7 (Value.int IntKind.i64 10) (fun t115 w =>
  M.cond t115
  (M.call Tryz.prog 54 #[x0] (fun t117 w =>
  K1 [] w) w)
  (M.bin .eql t7 (Value.int IntKind.i64 11) (fun t119 w =>
  M.cond t119
  (M.call Tryz.prog 55 #[x0] (fun t121 w =>
  K1 [] w) w)
  (M.bin .eql t7 (Value.int IntKind.i64 12) (fun t123 w =>
  M.cond t123
  (M.call Tryz.prog 56 #[x0] (fun t125 w =>
  K1 [] w) w)
  (M.bin .eql t7 (Value.int IntKind.i64 13) (fun t127 w =>
  M.cond t127
  (M.call Tryz.prog 57 #[x0] (fun t129 w =>
  K1 [] w) w)
  (M.bin .eql t7 (Value.int IntKind.i64 14) (fun t131 w =>
  M.cond t131
  (M.nilCheck x0 (fun t133 w =>
  M.fieldAddr 1 t133 (fun t134 w =>
  M.loadA 19 t134 (fun t135 w =>
  M.new 39 #[.int .i64 0, .int .i64 0, .int .i64 0, .int .i64 0, .int .i64 0, .int .i64 0, .int .i64 0, .int .i64 0, .slice none 0 0, .int .i64 0, .int .i64 0, .int .i64 0, .int .i64 0, .int .i64 0, .int .i64 0, .slice none 0 0, .slice none 0 0, .int .i64 0, .slice none 0 0] (fun t2 w =>
  M.store 19 t2 t135 (fun _ w =>
  M.nilCheck x0 (fun t137 w =>
  M.fieldAddr 20 t137 (fun t138 w =>
  M.fieldAddr 1 t138 (fun t139 w =>
  M.load1 t139 (fun t140 w =>
  M.fieldAddr 0 t2 (fun t141 w =>
  M.indexArr 8 1 t141 t140 (fun t142 w =>
  M.load1 t142 (fun t143 w =>
  M.fieldAddr 12 t2 (fun t144 w =>
  M.store 1 t144 (Value.int IntKind.i64 1) (fun _ w =>
  M.fieldAddr 14 t2 (fun t145 w =>
  M.store 1 t145 t143 (fun _ w =>
  M.loadA 19 t2 (fun t147 w =>
  M.call Tryz.prog 43 #[x0, t147, (Value.int IntKind.i64 (-1))] (fun t148 w =>
  K1 [] w) w) w) w) w) w) w) w) w) w) w) w) w) w) w) w) w) w) w)
  (M.nilCheck x0 (fun t11 w =>
  M.fieldAddr 20 t11 (fun t12 w =>
  M.fieldAddr 4 t12 (fun t13 w =>
  M.load1 t13 (fun t14 w =>
  M.conv .i64 t14 (fun t15 w =>
  M.call Tryz.prog 22 #[x0, t15] (fun t16 w =>
  M.call Tryz.prog 43 #[x0, t16, (Value.int IntKind.i64 (-1))] (fun t17 w =>
  K1 [] w) w) w) w) w) w) w) w)) w)) w)) w)) w)) w)) w)) w)) w)) w)) w)) w)) w)) w)) w) (fun s1 w => ∀ _ : List Value,
  R (.tuple #[]) w) w) w) w) w) w
theorem ok23 (x0 : Value) (R : Kt) (w : World) (h : sh23 x0 R w) : Ret Tryz.prog 23 #[x0] w R :=
  ret_mk <| calls_of_comp mixed (c := Tryz.f23.body.getD .skip) (args := [x0]) (rs := []) (Ann.seq Ann.text (Ann.jblock [] [2, 8, 9, 10, 11, 12, 13, 14, 15, 16, 17, 18, 19, 20, 21, 22, 23, 24, 25, 26, 27, 28, 29, 30, 31, 32, 33, 34, 35, 36, 37, 38, 39, 40, 41, 42, 43, 44, 45, 46, 47, 48, 49, 50, 51, 52, 53, 54, 55, 56, 57, 58, 59, 60, 61, 62, 63, 64, 65, 66, 67, 68, 69, 70, 71, 72, 73, 74, 75, 76, 77, 78, 79, 80, 81, 82, 83, 84, 85, 86, 87, 88, 89, 90, 91, 92, 93, 94, 95, 96, 97, 98, 99, 100, 101, 102, 103, 104, 105, 106, 107, 108, 109, 110, 111, 112, 113, 114, 115, 116, 117, 118, 119, 120, 121, 122, 123, 124, 125, 126, 127, 128, 129, 130, 131, 132, 133, 134, 135, 136, 137, 138, 139, 140, 141, 142, 143, 144, 145, 146, 147, 148] (Ann.seq Ann.text (Ann.cond Ann.text (Ann.seq Ann.text (Ann.cond (Ann.draw (Sch.take 0 (Sch.take 1 (Sch.take 2 (Sch.take 3 (Sch.take 4 (Sch.take 5 (Sch.take 6 (Sch.take 7 (Sch.take 8 (Sch.take 9 (Sch.take 10 (Sch.take 11 (Sch.take 12 (Sch.one 13 (Sch.one 14 Sch.done)))))))))))))))) (Ann.seq Ann.text (Ann.cond Ann.text (Ann.seq Ann.text (Ann.cond (Ann.draw (Sch.take 0 (Sch.take 1 (Sch.take 2 (Sch.take 3 (Sch.take 4 (Sch.take 5 (Sch.take 6 (Sch.take 7 (Sch.take 8 (Sch.take 9 (Sch.take 10 (Sch.take 11 (Sch.take 12 (Sch.take 13 (Sch.take 14 (Sch.take 15 (Sch.take 16 (Sch.take 17 (Sch.take 18 (Sch.take 19 (Sch.take 20 (Sch.take 21 (Sch.take 22 (Sch.take 23 (Sch.one 24 (Sch.take 25 (Sch.take 26 (Sch.one 27 (Sch.one 28 (Sch.one 29 Sch.done))))))))))))))))))))))))))))))) (Ann.seq Ann.text (Ann.cond Ann.text (Ann.seq Ann.text (Ann.cond Ann.text (Ann.seq Ann.text (Ann.cond Ann.text (Ann.seq Ann.text (Ann.cond Ann.text (Ann.seq Ann.text (Ann.cond Ann.text (Ann.seq Ann.text (Ann.cond Ann.text (Ann.seq Ann.text (Ann.cond Ann.text (Ann.seq Ann.text (Ann.cond Ann.text (Ann.seq Ann.text (Ann.cond Ann.text (Ann.seq Ann.text (Ann.cond (Ann.seq Ann.text (Ann.seq Ann.text Ann.text)) Ann.text))))))))))))))))))))))))))))))
    Tryz.func23 (by kernel_rfl) (by kernel_rfl)
    (Eq.mp (by kernel_rfl) h)
section
variable {w : World} {F : Nat → Prop} {p pb : Nat} {N : List Nd} {most : Int} {s : Sy} {sv : List Value} {i : Ins} {inputs mw : Int} {ov : Value} {outs : List Sy} {e : Int} {c a b d : Value}
theorem M.setAdd_i {kt : World → Prop} {id : Int} (h : Stp Z w F p pb N most s sv i inputs mw ov [] e) (hsv : sv = s.vals c a b d) (hB : Bnd s) (hR : RegsOk i)
    (hK : ∀ w', (∃ ov', Stp Z w' F p pb N most s sv i inputs mw ov' (addP N e [] (s.set i id) (-1)) e ∧ Mv w F pb ov w' F ov') → kt w') :
    M.call Tryz.prog 44 #[ptr pb, vi id] (fun t w => M.call Tryz.prog 43 #[ptr pb, t, vi (-1)] (fun _ w => kt w) w) w := by
  refine M.call_i (set37_ret h hsv hB.pc hR.1 id) ?_; rintro _ w1 ⟨rfl, k1⟩
  have h1 := h.keepN k1
  have h8' : (s.set i id).regs.length = 8 := by have := h.sy.1; simp [Sy.set, Sy.next, this]
  have hs1 : SyO w1 (Fr Z F pb ov) (.agg ⟨(s.set i id).vals c a b d⟩) (s.set i id) := SyO.of_vals h8' (h1.lists hsv)
  refine M.call_i (add37_ret h1 hs1 hB.conds (by simp) (-1)) ?_
  rintro _ w2 ⟨_, ov2, h2, m2⟩
  exact hK w2 ⟨ov2, h2, (Mv.none k1).trans m2⟩
theorem regs_getD (h8 : s.regs.length = 8) {r : Int} (h0 : 0 ≤ r) (h7 : r ≤ 7) : (s.vals c a b d)[r.toNat]? = some (vi (s.reg r)) := by
  unfold Sy.vals
  rw [List.getElem?_append_left (by simp; omega), List.getElem?_map, List.getElem?_eq_getElem (by omega)]
  unfold Sy.reg
  rw [List.getD_eq_getElem?_getD, List.getElem?_eq_getElem (by omega)]; rfl
theorem immOk_bound {len : Nat} (hlen : len ≤ 1000000) (hok : okI i len = true) (h : i.op = 3 ∨ i.op = 4 ∨ i.op = 5 ∨ i.op = 6 ∨ i.op = 9 ∨ i.op = 15) : i.imm.toNat < 1000000 := by
  have h2 := ((okI_iff i len).1 hok).2
  unfold immOk at h2
  by_cases o3 : i.op = 3
  · rw [if_pos o3] at h2; simp at h2; omega
  rw [if_neg o3] at h2
  by_cases o4 : i.op = 4
  · rw [if_pos o4] at h2; simp at h2; omega
  rw [if_neg o4] at h2
  by_cases o5 : i.op = 5 ∨ i.op = 6
  · rw [if_pos o5] at h2; simp at h2; omega
  rw [if_neg o5] at h2
  by_cases o9 : i.op = 9
  · rw [if_pos o9] at h2; simp at h2; omega
  rw [if_neg o9] at h2
  by_cases o15 : i.op = 15
  · rw [if_pos o15] at h2; simp at h2; omega
  omega
theorem okI_regs {len : Int} (hok : okI i len = true) : RegsOk i := by
  have h2 := ((okI_iff i len).1 hok).1.2.1
  have one : ∀ k, k < 3 → 0 ≤ (fldOf i k).2 ∧ (fldOf i k).2 ≤ 7 := fun k hk => by
    have := h2 k hk
    unfold regOk at this
    split at this
    · simpa using this
    · simp at this; omega
  exact ⟨one 0 (by omega), one 1 (by omega), one 2 (by omega)⟩
set_option maxHeartbeats 4000000 in
theorem step37_ret {len : Nat} (h : Stp Z w F p pb N most s sv i inputs mw ov [] 0) (hsv : sv = s.vals c a b d) (hB : Bnd s) (hlen : len ≤ 1000000) (hok : okI i len = true) (hin : inputs ≤ 1000000) :
    Ret Tryz.prog 23 #[ptr pb] w (Adds Z w F p pb most s sv i inputs mw ov (stepI most N s i inputs mw)) := by
  have hR := okI_regs hok
  have hop := ((okI_iff i len).1 hok).1.1
  have hib := immOk_bound hlen hok
  have h8 := h.sy.1
  have hcop := h.cop
  refine ok23 _ _ _ ?_
  unfold sh23
  (repeat (first|refine jb ?_|refine jc ?_|refine jM (by assumption) ?_))
  refine M.share_j (fun vals w' => Adds Z w F p pb most s sv i inputs mw ov (stepI most N s i inputs mw) (.tuple #[]) w') (fun vals w' hA _ => hA) ?_
  intro K hK
  have hK : ∀ w', (∃ F' ov', Stp Z w' F' p pb (stepI most N s i inputs mw).1 most s sv i inputs mw ov' (stepI most N s i inputs mw).2.2 (stepI most N s i inputs mw).2.1 ∧ Mv w F pb ov w' F' ov') → K [] w' := fun w' hh => hK [] w' ⟨rfl, hh⟩
  unfold stepI at hK
  by_cases o1 : i.op = 1
  · simp only [if_pos o1] at hK
    have hcI := h.cI
    (repeat (first|refine jb ?_|refine jc ?_|refine jo ?_|refine jG ?_|refine jM (by assumption) ?_))
    refine M.call_i (word37_ret h i.imm) ?_
    rintro _ w1 ⟨rfl, F1, h1, m1⟩
    refine M.setAdd_i h1 hsv hB hR ?_
    rintro w2 ⟨ov2, h2, m2⟩
    exact hK w2 ⟨F1, ov2, h2, m1.trans m2⟩
  by_cases o2 : i.op = 2
  · simp only [if_neg o1, if_pos o2] at hK
    have kd := Keep.drew w No
    have hd := h.keepN kd
    have hcB := hd.cB
    have hrB := hd.creg hR.2.1.1 hR.2.1.2
    (repeat (first|refine jb ?_|refine jc ?_|refine jd ?_|refine jo ?_|refine jp ?_|refine jG ?_|refine jH ?_|refine jM (by assumption) ?_))
    refine M.arr8_i hR.2.1.1 (by have := hR.2.1.2; omega) ?_
    (repeat (refine jM (by assumption) ?_))
    refine M.call_i (set37_ret hd hsv hB.pc hR.1 (s.reg i.b)) ?_; rintro _ w1 ⟨rfl, k1⟩
    have h1 := hd.keepN k1
    have hcB1 := h1.cB
    (repeat (refine jO (by assumption) ?_))
    have h8' : (s.set i (s.reg i.b)).regs.length = 8 := by simp [Sy.set, Sy.next, h8]
    have hs1 : SyO w1 (Fr Z F pb ov) (.agg ⟨(s.set i (s.reg i.b)).vals c a b d⟩) (s.set i (s.reg i.b)) := SyO.of_vals h8' (h1.lists hsv)
    refine M.call_i (add37_ret h1 hs1 hB.conds (by simp) (-1)) ?_
    rintro _ w2 ⟨rfl, ov2, h2, m2⟩
    have hcB2 := h2.cB
    (repeat (refine jO (by assumption) ?_))
    exact hK w2 ⟨F, ov2, h2, (Mv.none (kd.trans k1 (fun _ _ h => h))).trans m2⟩
  by_cases o3 : i.op = 3
  · simp only [if_neg o1, if_neg o2, if_pos o3] at hK
    (repeat (first|refine jo ?_|refine jp ?_|refine jG ?_|refine jH ?_))
    refine M.call_i (binary37_ret h hR (hib (by omega))) ?_
    rintro _ w1 ⟨rfl, F1, h1, m1⟩
    refine M.setAdd_i h1 hsv hB hR ?_
    rintro w2 ⟨ov2, h2, m2⟩
    exact hK w2 ⟨F1, ov2, h2, m1.trans m2⟩
  by_cases o4 : i.op = 4
  · simp only [if_neg o1, if_neg o2, if_neg o3, if_pos o4] at hK
    have hi9 := hib (by omega)
    have kd := Keep.drew w No
    have hd := h.keepN kd
    have hcp := hd.cp
    have hcI := hd.cI
    have hcB := hd.cB
    have hrB := hd.creg hR.2.1.1 hR.2.1.2
    (repeat (first|refine jb ?_|refine jc ?_|refine jd ?_|refine jo ?_|refine jp ?_|refine jG ?_|refine jH ?_|refine jM (by assumption) ?_))
    refine M.toIntW_i ?_
    have eI : i.imm.toInt = (i.imm.toNat : Int) := by rw [BitVec.toInt_eq_toNat_cond]; rw [if_pos (by omega)]
    rw [eI]
    (repeat (first|refine jb ?_|refine jc ?_|refine jM (by assumption) ?_))
    refine M.arr8_i hR.2.1.1 (by have := hR.2.1.2; omega) ?_
    (repeat (refine jM (by assumption) ?_))
    refine M.call_i (foldUn_ret hd.dag (i.imm.toNat : Int) (s.reg i.b)) ?_; rintro _ w1 ⟨F1, rfl, d1, f1, k1⟩
    obtain ⟨h1, m1⟩ := hd.ask d1 f1 k1
    have hcB1 := h1.cB
    have hcI1 := h1.cI
    (repeat (refine jO (by assumption) ?_))
    refine M.extract_i rfl ?_
    refine M.extract_i rfl ?_
    refine M.call_i (keep37_ret h1 _ _) ?_
    rintro _ w2 ⟨rfl, F2, h2, m2⟩
    have hcB2 := h2.cB
    have hcI2 := h2.cI
    (repeat (refine jO (by assumption) ?_))
    have hX : kp 0 ((foldUn most N (i.imm.toNat : Int) (s.reg i.b)).1, (foldUn most N (i.imm.toNat : Int) (s.reg i.b)).2.1, (foldUn most N (i.imm.toNat : Int) (s.reg i.b)).2.2) = kp 0 (foldUn most N (i.imm.toNat : Int) (s.reg i.b)) := rfl
    rw [hX] at h2 ⊢
    generalize kp 0 (foldUn most N (i.imm.toNat : Int) (s.reg i.b)) = X at h2 hK ⊢
    refine M.call_i (set37_ret h2 hsv hB.pc hR.1 X.2.1) ?_; rintro _ w3 ⟨rfl, k3⟩
    have h3 := h2.keepN k3
    have hcB3 := h3.cB
    have hcI3 := h3.cI
    (repeat (refine jO (by assumption) ?_))
    have h8' : (s.set i X.2.1).regs.length = 8 := by simp [Sy.set, Sy.next, h8]
    have hs3 : SyO w3 (Fr Z F2 pb ov) (.agg ⟨(s.set i X.2.1).vals c a b d⟩) (s.set i X.2.1) := SyO.of_vals h8' (h3.lists hsv)
    refine M.call_i (add37_ret h3 hs3 hB.conds (by simp) (-1)) ?_
    rintro _ w4 ⟨rfl, ov4, h4, m4⟩
    have hcB4 := h4.cB
    have hcI4 := h4.cI
    (repeat (refine jO (by assumption) ?_))
    exact hK w4 ⟨F2, ov4, h4, (Mv.none kd).trans (m1.trans (m2.trans ((Mv.none k3).trans m4)))⟩
  by_cases o5 : i.op = 5
  · simp only [if_neg o1, if_neg o2, if_neg o3, if_neg o4, if_pos o5] at hK
    have hi9 := hib (by omega)
    (repeat (first|refine jo ?_|refine jp ?_|refine jG ?_|refine jH ?_))
    refine M.call_i (at37_ret h hsv (by omega)) ?_; rintro _ w1 ⟨rfl, k1⟩
    have h1 := h.keepN k1
    have hs1 : SyO w1 (Fr Z F pb ov) (.agg ⟨(s.at i).vals c a b d⟩) (s.at i) := SyO.of_vals (t := s.at i) h8 (h1.lists hsv)
    refine M.call_i (add37_ret h1 hs1 hB.conds (by simp) (-1)) ?_
    rintro _ w2 ⟨rfl, ov2, h2, m2⟩
    exact hK w2 ⟨F, ov2, h2, (Mv.none k1).trans m2⟩
  by_cases o6 : i.op = 6
  · simp only [if_neg o1, if_neg o2, if_neg o3, if_neg o4, if_neg o5, if_pos o6] at hK
    (repeat (first|refine jo ?_|refine jp ?_|refine jG ?_|refine jH ?_))
    refine M.call_i (branch37_ret h hsv hB hR (hib (by omega))) ?_
    rintro _ w1 ⟨rfl, F1, ov1, h1, m1⟩
    exact hK w1 ⟨F1, ov1, h1, m1⟩
  by_cases o7 : i.op = 7
  · simp only [if_neg o1, if_neg o2, if_neg o3, if_neg o4, if_neg o5, if_neg o6, if_pos o7] at hK
    (repeat (first|refine jo ?_|refine jp ?_|refine jG ?_|refine jH ?_))
    refine M.call_i (load37_ret h hsv hB hR) ?_
    rintro _ w1 ⟨rfl, F1, ov1, h1, m1⟩
    exact hK w1 ⟨F1, ov1, h1, m1⟩
  by_cases o8 : i.op = 8
  · simp only [if_neg o1, if_neg o2, if_neg o3, if_neg o4, if_neg o5, if_neg o6, if_neg o7, if_pos o8] at hK
    (repeat (first|refine jo ?_|refine jp ?_|refine jG ?_|refine jH ?_))
    refine M.call_i (store37_ret h hsv hB hR) ?_
    rintro _ w1 ⟨rfl, F1, ov1, h1, m1⟩
    exact hK w1 ⟨F1, ov1, h1, m1⟩
  by_cases o9 : i.op = 9
  · simp only [if_neg o1, if_neg o2, if_neg o3, if_neg o4, if_neg o5, if_neg o6, if_neg o7, if_neg o8, if_pos o9] at hK
    (repeat (first|refine jo ?_|refine jp ?_|refine jG ?_|refine jH ?_))
    refine M.call_i (input37_ret h hin (.inr (hib (by omega)))) ?_
    rintro _ w1 ⟨rfl, F1, h1, m1⟩
    refine M.setAdd_i h1 hsv hB hR ?_
    rintro w2 ⟨ov2, h2, m2⟩
    exact hK w2 ⟨F1, ov2, h2, m1.trans m2⟩
  by_cases o10 : i.op = 10
  · simp only [if_neg o1, if_neg o2, if_neg o3, if_neg o4, if_neg o5, if_neg o6, if_neg o7, if_neg o8, if_neg o9, if_pos o10] at hK
    (repeat (first|refine jo ?_|refine jp ?_|refine jG ?_|refine jH ?_))
    refine M.call_i (read37_ret h hsv hB hR) ?_
    rintro _ w1 ⟨rfl, F1, ov1, h1, m1⟩
    exact hK w1 ⟨F1, ov1, h1, m1⟩
  by_cases o11 : i.op = 11
  · simp only [if_neg o1, if_neg o2, if_neg o3, if_neg o4, if_neg o5, if_neg o6, if_neg o7, if_neg o8, if_neg o9, if_neg o10, if_pos o11] at hK
    (repeat (first|refine jo ?_|refine jp ?_|refine jG ?_|refine jH ?_))
    refine M.call_i (write37_ret h hsv hB hR) ?_
    rintro _ w1 ⟨rfl, F1, ov1, h1, m1⟩
    exact hK w1 ⟨F1, ov1, h1, m1⟩
  by_cases o12 : i.op = 12
  · simp only [if_neg o1, if_neg o2, if_neg o3, if_neg o4, if_neg o5, if_neg o6, if_neg o7, if_neg o8, if_neg o9, if_neg o10, if_neg o11, if_pos o12] at hK
    (repeat (first|refine jo ?_|refine jp ?_|refine jG ?_|refine jH ?_))
    refine M.call_i (flush37_ret h hsv hB) ?_
    rintro _ w1 ⟨rfl, F1, ov1, h1, m1⟩
    exact hK w1 ⟨F1, ov1, h1, m1⟩
  by_cases o13 : i.op = 13
  · simp only [if_neg o1, if_neg o2, if_neg o3, if_neg o4, if_neg o5, if_neg o6, if_neg o7, if_neg o8, if_neg o9, if_neg o10, if_neg o11, if_neg o12, if_pos o13] at hK
    (repeat (first|refine jo ?_|refine jp ?_|refine jG ?_|refine jH ?_))
    refine M.call_i (barrier37_ret h hsv hB) ?_
    rintro _ w1 ⟨rfl, F1, ov1, h1, m1⟩
    exact hK w1 ⟨F1, ov1, h1, m1⟩
  by_cases o14 : i.op = 14
  · simp only [if_neg o1, if_neg o2, if_neg o3, if_neg o4, if_neg o5, if_neg o6, if_neg o7, if_neg o8, if_neg o9, if_neg o10, if_neg o11, if_neg o12, if_neg o13, if_pos o14] at hK
    obtain ⟨q1, q2, q3, q4⟩ := h.one4 hsv
    (repeat (first|refine jb ?_|refine jc ?_|refine jo ?_|refine jp ?_|refine jG ?_|refine jH ?_))
    refine h.svs ?_
    refine M.new_i (l := zSy) (fun w1 b1 k1 s1 => ?_)
    refine M.storeAll_i b1 h.sy.len19 rfl (by rw [hsv]; exact vals_one q1 q2 q3 q4) (fun w2 b2 k2 s2 => ?_)
    have k02 : Keep w w2 No := k1.trans k2 (fun x hx e => by have e : x = w.heap.size := e; omega)
    have h2 := h.keepN k02
    have hcA := h2.cA
    rw [hsv] at b2
    (repeat (first|refine jb ?_|refine jc ?_|refine jM (by assumption) ?_))
    refine M.arr8_i hR.1.1 (by have := hR.1.2; omega) ?_
    rw [Nat.zero_add]
    refine M.loadB_i b2 (regs_getD h8 hR.1.1 hR.1.2) ?_
    have hl := vals_len (s := s) (c := c) (a := a) (b := b) (d := d) h8
    (repeat (refine jc ?_))
    refine M.store_i b2 (by rw [hl]; omega) rfl (fun w3 b3 k3 s3 => ?_)
    (repeat (refine jc ?_))
    refine M.store_i b3 (by rw [List.length_set, hl]; omega) rfl (fun w4 b4 k4 s4 => ?_)
    have ev : ((s.vals c a b d).set (0 + 12) (vi 1)).set (0 + 14) (vi (s.reg i.a)) = ({ s with en := 1, value := s.reg i.a } : Sy).vals c a b d := by
      unfold Sy.vals
      rw [List.set_append_right _ _ (by simp [h8]), List.set_append_right _ _ (by simp [h8])]
      simp [h8]
    rw [ev] at b4
    have k04 : Keep w w4 No := (k02.trans k3 (fun x hx e => by have e : x = w.heap.size := e; omega)).trans k4 (fun x hx e => by have e : x = w.heap.size := e; omega)
    have h4 := h.keepN k04
    refine M.loadAll_i b4 (vals_len (s := { s with en := 1, value := s.reg i.a }) h8) ?_
    have hs4 : SyO w4 (Fr Z F pb ov) (.agg ⟨({ s with en := 1, value := s.reg i.a } : Sy).vals c a b d⟩) { s with en := 1, value := s.reg i.a } := SyO.of_vals (t := { s with en := 1, value := s.reg i.a }) h8 (h4.lists hsv)
    refine M.call_i (add37_ret h4 hs4 hB.conds (by simp) (-1)) ?_
    rintro _ w5 ⟨rfl, ov5, h5, m5⟩
    exact hK w5 ⟨F, ov5, h5, (Mv.none k04).trans m5⟩
  · simp only [if_neg o1, if_neg o2, if_neg o3, if_neg o4, if_neg o5, if_neg o6, if_neg o7, if_neg o8, if_neg o9, if_neg o10, if_neg o11, if_neg o12, if_neg o13, if_neg o14] at hK
    have hi9 := hib (by omega)
    have hcI := h.cI
    (repeat (first|refine jb ?_|refine jc ?_|refine jp ?_|refine jH ?_|refine jM (by assumption) ?_))
    refine M.toIntW_i ?_
    have eI : i.imm.toInt = (i.imm.toNat : Int) := by rw [BitVec.toInt_eq_toNat_cond]; rw [if_pos (by omega)]
    rw [eI]
    refine M.call_i (trap37_ret h hsv (i.imm.toNat : Int)) ?_; rintro _ w1 ⟨rfl, k1⟩
    have h1 := h.keepN k1
    have hs1 : SyO w1 (Fr Z F pb ov) (.agg ⟨(s.trap (i.imm.toNat : Int)).vals c a b d⟩) (s.trap (i.imm.toNat : Int)) := SyO.of_vals (t := s.trap (i.imm.toNat : Int)) h8 (h1.lists hsv)
    refine M.call_i (add37_ret h1 hs1 hB.conds (by simp) (-1)) ?_
    rintro _ w2 ⟨rfl, ov2, h2, m2⟩
    exact hK w2 ⟨F, ov2, h2, (Mv.none k1).trans m2⟩
end
end Go.Proofs.YtanjlgafjgoaaaaGreat
namespace Go.Proofs.YtanjlgafjgoaaaaGreat
open Go.Mw
set_option linter.unusedVariables false
set_option linter.unusedSimpArgs false
set_option maxRecDepth 100000
attribute [local irreducible] M.val M.unit M.next M.pick M.new M.nilCheck M.load1 M.loadA M.store M.fieldAddr M.indexSl M.indexArr M.slice M.makeSlice M.buildSlice M.len M.lenS M.cap M.append M.extract M.conv M.not M.neg M.bin M.shift M.eqB M.eqNil M.scat M.call M.callv M.gd M.share M.cond M.loop M.draw pureW readW Ret
variable {Z : Nat → Prop}
def sh20 (x0 x1 : Value) (R : Kt) (w : World) : Prop :=
  M.new 28 (Value.cells x0) (fun t2 w =>
  M.new 39 (Value.cells x1) (fun t3 w =>
  M.draw (fun w =>
  M.fieldAddr 0 t3 (fun t8 w =>
  M.fieldAddr 8 t3 (fun t10 w =>
  M.load1 t10 (fun t11 w =>
  M.fieldAddr 15 t3 (fun t12 w =>
  M.fieldAddr 0 t12 (fun t13 w =>
  M.load1 t13 (fun t14 w =>
  M.val Tryz.prog (Instr.sliceAt 37 t8 none none none) (fun t9 w =>
  ((M.load1 t13 (fun v' _ => v' = t14) w) ∧ ((M.load1 t10 (fun v' _ => v' = t11) w) ∧ M.buildSlice 30 1 #[.slice none 0 0] 3 [(0, t9), (1, t11), (2, t14)] (fun t15 w =>
  M.call Tryz.prog 38 #[t15] (fun t16 w =>
  M.fieldAddr 15 t3 (fun t17 w =>
  M.fieldAddr 1 t17 (fun t18 w =>
  M.load1 t18 (fun t19 w =>
  M.len t19 (fun t20 w =>
  M.loop [t16, (Value.int IntKind.i64 0)] (fun s1 K1 w => ∀ _ : List Value,
  M.bin .lss (s1.getD 1 undef) t20 (fun t22 w =>
  M.cond t22
  (M.indexSl 3 t19 (s1.getD 1 undef) (fun t23 w =>
  M.loadA 3 t23 (fun t24 w =>
  M.new 97 #[.int .i64 0, .int .i64 0, .int .i64 0] (fun t7 w =>
  M.store 3 t7 t24 (fun _ w =>
  M.fieldAddr 1 t7 (fun t26 w =>
  M.load1 t26 (fun t27 w =>
  M.buildSlice 3 1 #[.int .i64 0] 1 [(0, t27)] (fun t28 w =>
  M.append 3 1 8 #[.int .i64 0] (s1.getD 0 undef) t28 (fun t29 w =>
  M.bin .add (s1.getD 1 undef) (Value.int IntKind.i64 1) (fun t30 w =>
  K1 [t29, t30] w) w) w) w) w) w) w) w) w) w)
  (M.call Tryz.prog 39 #[(s1.getD 0 undef), (.func (Fn.func 40) #[] #[t2])] (fun t33 w =>
  M.not t33 (fun t34 w =>
  R t34 w) w) w)) w) w) w) w) w) w) w) w))) w) w) w) w) w) w) w) w) w) w
theorem ok20 (x0 x1 : Value) (R : Kt) (w : World) (h : sh20 x0 x1 R w) : Ret Tryz.prog 20 #[x0, x1] w R :=
  ret_mk <| calls_of_comp mixed (c := Tryz.f20.body.getD .skip) (args := [x0, x1]) (rs := [(ResultVar.tmp 4)]) (Ann.seq Ann.text (Ann.seq (Ann.draw (Sch.take 0 (Sch.take 2 (Sch.take 3 (Sch.take 4 (Sch.take 5 (Sch.take 6 (Sch.one 1 (Sch.one 7 (Sch.one 8 (Sch.take 9 Sch.done))))))))))) (Ann.seq (Ann.seq Ann.text (Ann.block (Ann.loop [5, 21] [7, 22, 23, 24, 25, 26, 27, 28, 29, 30] (Ann.seq Ann.text (Ann.seq (Ann.cond Ann.leaf Ann.leaf) (Ann.seq (Ann.block (Ann.seq Ann.text Ann.text)) Ann.text)))))) (Ann.seq Ann.text Ann.leaf))))
    Tryz.func20 (by kernel_rfl) (by kernel_rfl)
    (Eq.mp (by kernel_rfl) h)
def sh40 (x0 x1 : Value) (R : Kt) (w : World) : Prop :=
  M.load1 x1 (fun t4 w =>
  M.call Tryz.prog 41 #[t4, x0] (fun t6 w =>
  M.bin .neq t6 (Value.int IntKind.i64 64) (fun t7 w =>
  R t7 w) w) w) w
theorem ok40 (x0 x1 : Value) (R : Kt) (w : World) (h : sh40 x0 x1 R w) : Ret Tryz.prog 40 #[x0, x1] w R :=
  ret_mk <| calls_of_comp mixed (c := Tryz.f40.body.getD .skip) (args := [x0, x1]) (rs := [(ResultVar.tmp 3)]) (Ann.seq Ann.text (Ann.seq Ann.text Ann.leaf))
    Tryz.func40 (by kernel_rfl) (by kernel_rfl)
    (Eq.mp (by kernel_rfl) h)
def sh12 (x0 x1 x2 x3 x4 : Value) (R : Kt) (w : World) : Prop :=
  M.new 39 (Value.cells x2) (fun t7 w =>
  M.fieldAddr 12 t7 (fun t13 w =>
  M.load1 t13 (fun t14 w =>
  M.bin .neq t14 (Value.int IntKind.i64 0) (fun t15 w =>
  M.cond t15
  (R (.tuple #[(Value.slice none 0 0), (Value.int IntKind.i64 0)]) w)
  (M.loadA 19 t7 (fun t17 w =>
  M.call Tryz.prog 20 #[x0, t17] (fun t18 w =>
  M.not t18 (fun t19 w =>
  M.cond t19
  (R (.tuple #[(Value.slice none 0 0), (Value.int IntKind.i64 11)]) w)
  (M.loadA 19 t7 (fun t21 w =>
  pureW Tryz.prog (Instr.build 78 #[(0, x0), (1, t21), (3, x3), (4, x4)]) (fun t24 w =>
  M.new 78 (Value.cells t24) (fun t25 w =>
  M.nilCheck t25 (fun t27 w =>
  M.fieldAddr 1 t27 (fun t28 w =>
  M.fieldAddr 10 t28 (fun t29 w =>
  M.load1 t29 (fun t30 w =>
  M.bin .add t30 (Value.int IntKind.i64 1) (fun t31 w =>
  M.nilCheck t25 (fun t32 w =>
  M.fieldAddr 1 t32 (fun t33 w =>
  M.fieldAddr 10 t33 (fun t34 w =>
  M.store 1 t34 t31 (fun _ w =>
  M.fieldAddr 9 t7 (fun t35 w =>
  M.load1 t35 (fun t36 w =>
  M.bin .lss t36 (Value.int IntKind.i64 0) (fun t37 w =>
  M.gd t37 false (fun k w => M.fieldAddr 9 t7 k w) (fun t39 w =>
  M.gd t37 false (fun k w => M.load1 t39 k w) (fun t40 w =>
  M.gd t37 false (fun k w => k x1 w) (fun t41 w =>
  M.gd t37 false (fun k w => M.len t41 k w) (fun t42 w =>
  M.gd t37 false (fun k w => M.bin .geq t40 t42 k w) (fun t43 w =>
  M.pick t37 (Value.bool true) t43 (fun t44 w =>
  M.gd t44 false (fun k w => k x1 w) (fun t46 w =>
  M.gd t44 false (fun k w => M.fieldAddr 9 t7 k w) (fun t47 w =>
  M.gd t44 false (fun k w => M.load1 t47 k w) (fun t48 w =>
  M.gd t44 false (fun k w => M.indexSl 5 t46 t48 k w) (fun t49 w =>
  M.gd t44 false (fun k w => M.loadA 5 t49 k w) (fun t50 w =>
  M.gd t44 false (fun k w => k x1 w) (fun t51 w =>
  M.gd t44 false (fun k w => M.len t51 k w) (fun t52 w =>
  M.gd t44 false (fun k w => M.call Tryz.prog 21 #[t50, (Value.int IntKind.i64 0), t52] k w) (fun t53 w =>
  M.gd t44 false (fun k w => M.bin .neq t53 (Value.int IntKind.i64 0) k w) (fun t54 w =>
  M.pick t44 (Value.bool true) t54 (fun t55 w =>
  M.cond t55
  (M.call Tryz.prog 22 #[t25, (Value.int IntKind.i64 256)] (fun t57 w =>
  M.buildSlice 39 19 #[.int .i64 0, .int .i64 0, .int .i64 0, .int .i64 0, .int .i64 0, .int .i64 0, .int .i64 0, .int .i64 0, .slice none 0 0, .int .i64 0, .int .i64 0, .int .i64 0, .int .i64 0, .int .i64 0, .int .i64 0, .slice none 0 0, .slice none 0 0, .int .i64 0, .slice none 0 0] 1 [(0, t57)] (fun t58 w =>
  R (.tuple #[t58, (Value.int IntKind.i64 0)]) w) w) w)
  (M.fieldAddr 9 t7 (fun t61 w =>
  M.load1 t61 (fun t62 w =>
  M.indexSl 5 x1 t62 (fun t63 w =>
  M.loadA 5 t63 (fun t64 w =>
  M.nilCheck t25 (fun t65 w =>
  M.fieldAddr 20 t65 (fun t66 w =>
  M.store 5 t66 t64 (fun _ w =>
  M.call Tryz.prog 23 #[t25] (fun t68 w =>
  M.nilCheck t25 (fun t70 w =>
  M.fieldAddr 28 t70 (fun t71 w =>
  M.load1 t71 (fun t72 w =>
  M.bin .neq t72 (Value.int IntKind.i64 0) (fun t73 w =>
  M.cond t73
  (M.draw (fun w =>
  M.nilCheck t25 (fun t75 w =>
  M.fieldAddr 28 t75 (fun t76 w =>
  M.load1 t76 (fun t77 w =>
  R (.tuple #[(Value.slice none 0 0), t77]) w) w) w) w) w)
  (M.nilCheck t25 (fun t79 w =>
  M.fieldAddr 27 t79 (fun t80 w =>
  M.load1 t80 (fun t81 w =>
  R (.tuple #[t81, (Value.int IntKind.i64 0)]) w) w) w) w)) w) w) w) w) w) w) w) w) w) w) w) w)) w) w) w) w) w) w) w) w) w) w) w) w) w) w) w) w) w) w) w) w) w) w) w) w) w) w) w) w) w) w) w)) w) w) w)) w) w) w) w
theorem ok12 (x0 x1 x2 x3 x4 : Value) (R : Kt) (w : World) (h : sh12 x0 x1 x2 x3 x4 R w) : Ret Tryz.prog 12 #[x0, x1, x2, x3, x4] w R :=
  ret_mk <| calls_of_comp mixed (c := Tryz.f12.body.getD .skip) (args := [x0, x1, x2, x3, x4]) (rs := [(ResultVar.tmp 10), (ResultVar.tmp 11)]) (Ann.seq Ann.text (Ann.seq (Ann.seq Ann.text (Ann.cond (Ann.seq Ann.text Ann.leaf) Ann.leaf)) (Ann.seq (Ann.seq Ann.text (Ann.cond (Ann.seq Ann.text Ann.leaf) Ann.leaf)) (Ann.seq Ann.text (Ann.seq Ann.text (Ann.seq (Ann.seq Ann.text (Ann.cond (Ann.seq Ann.text Ann.leaf) Ann.leaf)) (Ann.seq Ann.text (Ann.seq Ann.text (Ann.seq (Ann.seq Ann.text (Ann.cond (Ann.seq (Ann.draw (Sch.take 0 (Sch.take 1 (Sch.take 2 (Sch.take 3 (Sch.take 4 (Sch.take 5 Sch.done))))))) Ann.leaf) Ann.leaf)) (Ann.seq Ann.text Ann.leaf))))))))))
    Tryz.func12 (by kernel_rfl) (by kernel_rfl)
    (Eq.mp (by kernel_rfl) h)
section
variable {w : World} {F : Nat → Prop} {p : Nat} {N : List Nd} {most : Int} {s : Sy} {D : Nat → Prop}
set_option maxHeartbeats 2000000 in
theorem fine37_ret {v : Value} (hd : DagO w F p N most) (hs : SyO w D v s) (hB : Bnd s) :
    Ret Tryz.prog 20 #[ptr p, v] w (fun r w' => r = .bool (fineN N s) ∧ Keep w w' No) := by
  obtain ⟨h8, c, a, b, d, rfl, hc, hdv, hcd⟩ := hs.mono (D' := fun x => x < w.heap.size) (fun x hx _ => hx)
  have hB1 := hB.cells; have hB2 := hB.disk; have hB3 := hB.pend
  obtain ⟨regs, cells, pc, steps, calls, en, code, value, ⟨disk, pend, ep⟩, conds⟩ := s
  obtain ⟨r0, r1, r2, r3, r4, r5, r6, r7, rfl⟩ := eight h8
  have hB1 : cells.length ≤ 100000 := hB1
  have hB2 : disk.length ≤ 100000 := hB2
  have hB3 : pend.length ≤ 100000 := hB3
  obtain ⟨hda, B, cB, eb, hrb, hcB⟩ := hdv
  refine ok20 _ _ _ _ ?_
  unfold sh20
  refine M.new_i (l := [ptr p]) (fun w1 b1 k1 s1 => ?_)
  refine M.new_i (l := [vi r0, vi r1, vi r2, vi r3, vi r4, vi r5, vi r6, vi r7, c, vi pc, vi steps, vi calls, vi en, vi code, vi value, a, b, vi ep, d]) (fun w2 b2 k2 s2 => ?_)
  have b1 := b1.keep k2 (fun h => h)
  have kd := Keep.drew w2 No
  have k0d := (k1.trans k2 (fun _ _ h => h)).trans kd (fun _ _ h => h)
  have b1d := b1.keep kd (fun h => h)
  have b2d := b2.keep kd (fun h => h)
  have q1 := k1.size
  refine M.draw_i ?_
  generalize w2.drew = w3 at k0d b1d b2d ⊢
  (repeat (first|refine jc ?_|refine jN (by assumption) rfl ?_))
  refine M.val_i (v := .slice (some ⟨w1.heap.size, 0, none⟩) 8 8) (w' := w3) (by rfl) ?_
  (repeat (refine jP (by assumption) rfl ?_))
  have one3 : ∀ y ∈ [(.slice (some ⟨w1.heap.size, 0, none⟩) 8 8 : Value), c, a], y.oneCell' = true := by
    simp only [List.mem_cons, List.not_mem_nil, or_false, forall_eq_or_imp, forall_eq]
    exact ⟨rfl, LV.one hc, LV.one hda⟩
  obtain ⟨C, cC, ec, hrc, hcC⟩ := id hc
  obtain ⟨A, cA, ea, hra, hcA⟩ := id hda
  refine M.buildSlice_i [.slice (some ⟨w1.heap.size, 0, none⟩) 8 8, c, a] (by rw [ec, ea]; kernel_rfl) (fun w4 b4 k4 s4 => ?_)
  have k04 := k0d.trans k4 (fun _ _ h => h)
  have b2e := b2d.keep k4 (fun h => h)
  have hl8 : LV vi w4 (fun x => x < w4.heap.size) (.slice (some ⟨w1.heap.size, 0, none⟩) 8 8) [r0, r1, r2, r3, r4, r5, r6, r7] := by
    refine ⟨_, _, rfl, ?_, Nat.le_refl _⟩
    have := (Row.of_blk' (D := fun x => x < w4.heap.size) b2e b2e.lt).take 8
    exact this
  have q4 := k04.size
  have hc4 := (hc.keep k04 (fun _ _ _ h => h)).mono (D' := fun x => x < w4.heap.size) (fun x hx _ => hx)
  have ha4 := (hda.keep k04 (fun _ _ _ h => h)).mono (D' := fun x => x < w4.heap.size) (fun x hx _ => hx)
  refine M.call_i (scon_ret (D := fun x => x < w4.heap.size) (ls := [[r0, r1, r2, r3, r4, r5, r6, r7], cells, disk]) b4 rfl (fun k v l h1 h2 => ?_) (by simp; omega) (by simp) 3 rfl) ?_
  · match k, h1, h2 with
    | 0, h1, h2 => simp at h1 h2; subst h1 h2; exact hl8
    | 1, h1, h2 => simp at h1 h2; subst h1 h2; exact hc4
    | 2, h1, h2 => simp at h1 h2; subst h1 h2; exact ha4
    | k + 3, h1, _ => simp at h1
  rintro v0 w5 ⟨g5, k5⟩
  have k05 := k04.trans k5 (fun _ _ h => h)
  have b2f := b2e.keep k5 (fun h => h)
  have b1f := (b1d.keep k4 (fun h => h)).keep k5 (fun h => h)
  rw [eb] at b2f
  (repeat (first|refine ja ?_|refine jc ?_|refine jN (by assumption) rfl ?_))
  have efl : ([[r0, r1, r2, r3, r4, r5, r6, r7], cells, disk] : List (List Int)).flatten = [r0, r1, r2, r3, r4, r5, r6, r7] ++ cells ++ disk := by simp
  rw [efl] at g5
  generalize hL : ([r0, r1, r2, r3, r4, r5, r6, r7] ++ cells ++ disk : List Int) = L at g5
  have hLl : L.length ≤ 200008 := by rw [← hL]; simp; omega
  refine M.loop_i (σ := Nat) (fun j vals w' => ∃ u, vals = [u, vi j] ∧ j ≤ pend.length ∧ GI w' (w4.heap.size ≤ ·) u (L ++ (pend.take j).map SP.v) ∧ Keep w5 w' (w4.heap.size ≤ ·)) (fun j => pend.length - j) 0 ⟨v0, rfl, by omega, by simpa using g5, Keep.refl _ _⟩ ?_
  rintro j vals w6 K ⟨u, rfl, hj, g6, k6⟩ hK _
  simp only [List.getD_cons_zero, List.getD_cons_succ]
  have k06 : Keep w w6 No := k05.trans k6 (fun x hx e => by have e : w4.heap.size ≤ x := e; omega)
  by_cases hlt : j < pend.length
  · obtain ⟨y, hy⟩ : ∃ y, pend[j]? = some y := ⟨_, List.getElem?_eq_getElem hlt⟩
    have et : (pend.take (j + 1)).map SP.v = (pend.take j).map SP.v ++ [y.v] := by rw [List.take_add_one, hy, List.map_append]; rfl
    (repeat (first|refine jo ?_|refine jy ?_))
    refine M.idxF_i sp_len (by omega) (hrb.keep k06 (fun _ _ _ h => h)) rfl (by omega) (x := y) (by rw [Int.toNat_natCast]; exact hy) (fun bb oo hcc => ?_)
    refine M.load3_i (hcc 0 (vi y.b) rfl) (hcc 1 (vi y.v) rfl) (hcc 2 (vi y.e) rfl) ?_
    refine M.new_i (l := [vi 0, vi 0, vi 0]) (fun w7 b7 k7 s7 => ?_)
    refine M.storeAll_i (vs := [vi y.b, vi y.v, vi y.e]) b7 rfl rfl (by intro z hz; simp at hz; rcases hz with rfl | rfl | rfl <;> rfl) (fun w8 b8 k8 s8 => ?_)
    have q6 := k06.size
    have q56 := k6.size
    have q45 := k5.size
    have k68 : Keep w6 w8 No := k7.trans k8 (fun z hz e => by have e : z = w6.heap.size := e; omega)
    (repeat (first|refine jc ?_|refine jN (by assumption) rfl ?_))
    refine M.buildSlice_i [vi y.v] (by kernel_rfl) (fun w9 b9 k9 s9 => ?_)
    have k69 := k68.trans k9 (fun _ _ h => h)
    refine M.append1_i (g6.keep k69 (fun _ _ _ h => h)) (Row.of_blk' (D := fun _ => True) b9 trivial) rfl (by rw [List.length_append, List.length_map, List.length_take]; omega) (fun v10 w10 g10 k10 => ?_)
    have q9 := k69.size
    (repeat (refine jK ?_))
    refine hK (j + 1) _ _ (by omega) ⟨v10, rfl, by omega, ?_, (k6.trans k69 (fun _ _ h => h.elim)).trans k10 (fun x hx e => e)⟩
    rw [et, ← List.append_assoc]
    exact g10.mono (fun x hx e => by
      rcases e with e | e
      · exact e
      · show w4.heap.size ≤ x; omega)
  · have e : j = pend.length := by omega
    subst e
    rw [List.take_length] at g6
    (repeat (first|refine jp ?_|refine jz ?_))
    have hd6 := hd.keepN k06
    have hb14 := (b1d.keep k4 (fun h => h)).lt
    have b1g := b1f.keep k6 (fun x => by have x : w4.heap.size ≤ w.heap.size := x; omega)
    have hpred : PredF (.func (.func 40) #[] #[ptr w.heap.size]) (fun w' => DagO w' F p N most ∧ Blk w' w.heap.size [ptr p]) (fun id => decide (wdN N id ≠ 64)) := by
      intro x w' kt hI hk
      refine M.callv_i (fun _ _ => rfl) (Q := fun r w'' => r = .bool (decide (wdN N x ≠ 64)) ∧ Keep w' w'' No) ?_ ?_
      · show Ret Tryz.prog 40 #[vi x, ptr w.heap.size] w' _
        have hcell : w'.cell? ⟨w.heap.size, 0, none⟩ = some (ptr p) := hI.2.cell rfl
        refine ok40 _ _ _ _ ?_
        unfold sh40
        (repeat (refine jM (by assumption) ?_))
        refine M.call_i (hI.1.width x) ?_; rintro _ w'' ⟨rfl, k''⟩
        by_cases hx : wdN N x = 64
        · (repeat (refine jJ ?_))
          exact ⟨by rw [decide_eq_false (fun h => h hx)], k''⟩
        · (repeat (refine jI ?_))
          exact ⟨by rw [decide_eq_true hx], k''⟩
      · rintro _ w'' ⟨rfl, k''⟩
        exact hk w'' ⟨hI.1.keepN k'', hI.2.keep k'' (fun h => h)⟩ k''
    have hLl2 : (L ++ pend.map SP.v).length ≤ 300008 := by rw [List.length_append, List.length_map]; omega
    have hfew : Few (L ++ pend.map SP.v).length := Nat.le_trans hLl2 (by decide)
    refine M.call_i (containsFunc_ret (GI.lv g6) hfew hpred ⟨hd6, b1g⟩) ?_
    rintro _ w7 ⟨rfl, _, k7⟩
    refine M.not_i ?_
    refine ⟨?_, k06.trans k7 (fun _ _ h => h)⟩
    have : fineN N ⟨[r0, r1, r2, r3, r4, r5, r6, r7], cells, pc, steps, calls, en, code, value, ⟨disk, pend, ep⟩, conds⟩ = !((L ++ pend.map SP.v).any (fun id => decide (wdN N id ≠ 64))) := by
      unfold fineN
      rw [← hL]
      rw [List.all_eq_not_any_not]
      congr 2
      funext id
      by_cases h : wdN N id = 64 <;> simp [h]
    rw [this]
end
end Go.Proofs.YtanjlgafjgoaaaaGreat
namespace Go.Proofs.YtanjlgafjgoaaaaGreat
open Go.Mw
set_option linter.unusedVariables false
set_option linter.unusedSimpArgs false
set_option maxRecDepth 100000
attribute [local irreducible] M.val M.unit M.next M.pick M.new M.nilCheck M.load1 M.loadA M.store M.fieldAddr M.indexSl M.indexArr M.slice M.makeSlice M.buildSlice M.len M.lenS M.cap M.append M.extract M.conv M.not M.neg M.bin M.shift M.eqB M.eqNil M.scat M.call M.callv M.gd M.share M.cond M.loop M.draw pureW readW Ret
variable {Z : Nat → Prop}
section
variable {w : World} {F : Nat → Prop} {p : Nat} {N : List Nd} {most : Int} {s : Sy} {D : Nat → Prop}
def OutS (w : World) (D : Nat → Prop) (v : Value) (outs : List Sy) : Prop :=
  ∃ A cap, ∃ cs : List (List Value), v = .slice A outs.length cap ∧ Row w D A cs.flatten ∧ cs.length = outs.length ∧ outs.length ≤ cap ∧ ∀ (k : Nat) u t, cs[k]? = some u → outs[k]? = some t → SyO w D (.agg ⟨u⟩) t
theorem OutS.nil (w : World) (D : Nat → Prop) : OutS w D (.slice none 0 0) [] := ⟨none, 0, [], rfl, .inl rfl, rfl, Nat.le_refl _, fun k u t h => by simp at h⟩
def StepQ (Z : Nat → Prop) (w : World) (F : Nat → Prop) (p : Nat) (most : Int) (R : Rp) (r : Value) (w' : World) : Prop :=
  ∃ F' v, r = .tuple #[v, vi R.2.1] ∧ DagO w' F' p R.1 most ∧ (∀ x, x < w.heap.size → F' x → F x) ∧ Keep w w' F ∧ OutS w' (fun x => ¬ F' x ∧ Z x) v R.2.2
def StepP (w : World) (F : Nat → Prop) (p : Nat) (most : Int) (R : Rp) (r : Value) (w' : World) : Prop :=
  ∃ F' v, r = .tuple #[v, vi R.2.1] ∧ DagO w' F' p R.1 most ∧ (∀ x, x < w.heap.size → F' x → F x) ∧ Keep w w' F ∧ OutS w' (fun x => ¬ F' x) v R.2.2
theorem Ins.cells_len (i : Ins) : i.cells.length = 5 := rfl
set_option maxHeartbeats 4000000 in
theorem Step37_z {D1 : Nat → Prop} {code : List Ins} {cv v : Value} {inputs mw : Int} (hd : DagO w F p N most) (hcode : LN Ins.cells w D1 cv code) (hcl : code.length ≤ 1000000) (hs : SyO w D v s) (hD : ∀ x, D x → ¬ F x) (hB : Bnd s) (hst : 0 ≤ s.steps ∧ s.steps ≤ 1000000) (hin : inputs ≤ 1000000) (hDZ : ∀ x, D x → Z x) (hZn : ∀ x, w.heap.size ≤ x → Z x) :
    Ret Tryz.prog 12 #[ptr p, cv, v, vi inputs, vi mw] w (StepQ Z w F p most (stepN most N code s inputs mw)) := by
  have hcode := hcode.mono (D' := fun x => x < w.heap.size) (fun x hx _ => hx)
  obtain ⟨C, cC, rfl, hrC, hcC⟩ := hcode
  have hs0 := hs.mono (D' := fun x => ¬ F x ∧ x < w.heap.size ∧ Z x) (fun x hx hf => ⟨hD x hf, hx, hDZ x hf⟩)
  obtain ⟨h8, c, a, b, d, rfl, hc, hdv, hcd⟩ := id hs0
  obtain ⟨regs, cells, pc, steps, calls, en, cde, value, dev, conds⟩ := s
  obtain ⟨r0, r1, r2, r3, r4, r5, r6, r7, rfl⟩ := eight h8
  have hst : 0 ≤ steps ∧ steps ≤ 1000000 := hst
  have o1 := LV.one hc
  have o2 := LV.one hdv.1
  have o3 := LN.one hdv.2
  have o4 := LV.one hcd
  have hs0 : SyO w (fun x => ¬ F x ∧ x < w.heap.size ∧ Z x) (.agg ⟨[vi r0, vi r1, vi r2, vi r3, vi r4, vi r5, vi r6, vi r7, c, vi pc, vi steps, vi calls, vi en, vi cde, vi value, a, b, vi dev.ep, d]⟩) ⟨[r0, r1, r2, r3, r4, r5, r6, r7], cells, pc, steps, calls, en, cde, value, dev, conds⟩ := hs0
  refine ok12 _ _ _ _ _ _ _ ?_
  unfold sh12
  refine M.new_i (l := [vi r0, vi r1, vi r2, vi r3, vi r4, vi r5, vi r6, vi r7, c, vi pc, vi steps, vi calls, vi en, vi cde, vi value, a, b, vi dev.ep, d]) (fun w1 b1 k1 s1 => ?_)
  have hlow : ∀ {w' : World}, Keep w w' No → ∀ x, x < w.heap.size → F x → F x := fun _ _ _ h => h
  by_cases hen : en = 0
  case neg =>
    have e : stepN most N code ⟨[r0, r1, r2, r3, r4, r5, r6, r7], cells, pc, steps, calls, en, cde, value, dev, conds⟩ inputs mw = (N, 0, []) := by unfold stepN; rw [if_pos hen]
    rw [e]
    (repeat (first|refine jc ?_|refine jo ?_|refine jI ?_|refine jN (by assumption) rfl ?_))
    exact ⟨F, _, rfl, hd.keepN k1, fun _ _ h => h, k1.mono (fun _ _ h => h.elim), OutS.nil _ _⟩
  (repeat (first|refine jc ?_|refine jp ?_|refine jJ ?_|refine jN (by assumption) rfl ?_))
  refine M.loadAll_i b1 rfl ?_
  refine M.call_i (fine37_ret (hd.keepN k1) (hs0.keep k1 (fun _ _ _ h => h)) hB) ?_; rintro _ w2 ⟨rfl, k2⟩
  have b2 := b1.keep k2 (fun h => h)
  have k02 := k1.trans k2 (fun _ _ h => h)
  refine M.not_i ?_
  cases hfn : fineN N ⟨[r0, r1, r2, r3, r4, r5, r6, r7], cells, pc, steps, calls, en, cde, value, dev, conds⟩ with
  | false =>
    have e : stepN most N code ⟨[r0, r1, r2, r3, r4, r5, r6, r7], cells, pc, steps, calls, en, cde, value, dev, conds⟩ inputs mw = (N, 11, []) := by unfold stepN; rw [if_neg (fun h => h hen), if_pos hfn]
    rw [e]
    (repeat (refine jo ?_))
    exact ⟨F, _, rfl, hd.keepN k02, fun _ _ h => h, k02.mono (fun _ _ h => h.elim), OutS.nil _ _⟩
  | true =>
  have eN : stepN most N code ⟨[r0, r1, r2, r3, r4, r5, r6, r7], cells, pc, steps, calls, en, cde, value, dev, conds⟩ inputs mw = (match insAt code pc with
    | none => (N, 0, [(⟨[r0, r1, r2, r3, r4, r5, r6, r7], cells, pc, steps + 1, calls, en, cde, value, dev, conds⟩ : Sy).trap 256])
    | some i => if (stepI most N ⟨[r0, r1, r2, r3, r4, r5, r6, r7], cells, pc, steps + 1, calls, en, cde, value, dev, conds⟩ i inputs mw).2.1 = 0 then stepI most N ⟨[r0, r1, r2, r3, r4, r5, r6, r7], cells, pc, steps + 1, calls, en, cde, value, dev, conds⟩ i inputs mw else ((stepI most N ⟨[r0, r1, r2, r3, r4, r5, r6, r7], cells, pc, steps + 1, calls, en, cde, value, dev, conds⟩ i inputs mw).1, (stepI most N ⟨[r0, r1, r2, r3, r4, r5, r6, r7], cells, pc, steps + 1, calls, en, cde, value, dev, conds⟩ i inputs mw).2.1, [])) := by
    unfold stepN; rw [if_neg (fun h => h hen), if_neg (by rw [hfn]; decide)]
    cases insAt code pc <;> rfl
  (repeat (refine jp ?_))
  refine M.loadAll_i b2 rfl ?_
  refine M.pure_i (.agg ⟨[ptr p, vi r0, vi r1, vi r2, vi r3, vi r4, vi r5, vi r6, vi r7, c, vi pc, vi steps, vi calls, vi en, vi cde, vi value, a, b, vi dev.ep, d, vi 0, vi 0, vi 0, vi 0, vw 0, vi inputs, vi mw, .slice none 0 0, vi 0]⟩) (fun _ => by kernel_rfl) ?_
  refine M.new_i (l := [ptr p, vi r0, vi r1, vi r2, vi r3, vi r4, vi r5, vi r6, vi r7, c, vi pc, vi steps, vi calls, vi en, vi cde, vi value, a, b, vi dev.ep, d, vi 0, vi 0, vi 0, vi 0, vw 0, vi inputs, vi mw, .slice none 0 0, vi 0]) (fun w3 b3 k3 s3 => ?_)
  have b3t := b2.keep k3 (fun h => h)
  have k03 := k02.trans k3 (fun _ _ h => h)
  have q2 := k02.size
  have hb2 := b2.lt
  (repeat (first|refine jb ?_|refine jc ?_|refine jK ?_|refine jN (by assumption) rfl ?_))
  refine M.store_i b3 (by simp) rfl (fun w4 b4 k4 s4 => ?_)
  have b4 : Blk w4 w2.heap.size (stpL p [vi r0, vi r1, vi r2, vi r3, vi r4, vi r5, vi r6, vi r7, c, vi pc, vi (steps + 1), vi calls, vi en, vi cde, vi value, a, b, vi dev.ep, d] ⟨0, 0, 0, 0, 0⟩ inputs mw (.slice none 0 0) 0) := b4
  have b4t := b3t.keep k4 (fun e => by have e : w.heap.size = w2.heap.size := e; omega)
  have k04 : Keep w w4 No := k03.trans k4 (fun x hx e => by have e : x = w2.heap.size := e; omega)
  have hfr : ∀ x, (¬ F x ∧ x < w.heap.size ∧ Z x) → Fr Z F w2.heap.size (.slice none 0 0) x := fun x hx => ⟨hx.1, by have := hx.2.1; omega, fun ⟨n, c', h⟩ => (by simp at h), hx.2.2⟩
  have hs4 : SyO w4 (Fr Z F w2.heap.size (.slice none 0 0)) (.agg ⟨[vi r0, vi r1, vi r2, vi r3, vi r4, vi r5, vi r6, vi r7, c, vi pc, vi (steps + 1), vi calls, vi en, vi cde, vi value, a, b, vi dev.ep, d]⟩) ⟨[r0, r1, r2, r3, r4, r5, r6, r7], cells, pc, steps + 1, calls, en, cde, value, dev, conds⟩ :=
    ⟨rfl, c, a, b, d, rfl, (hc.keep k04 (fun _ _ _ h => h)).mono (fun x _ h => hfr x h), (hdv.keep k04 (fun _ _ _ h => h)).mono (fun x _ h => hfr x h), (hcd.keep k04 (fun _ _ _ h => h)).mono (fun x _ h => hfr x h)⟩
  have hnF : ¬ F w2.heap.size := fun h => by have := hd.lt h; omega
  have hoo : ∀ w', OutO w' (Fr Z F w2.heap.size (.slice none 0 0)) (.slice none 0 0) [] := fun w' => ⟨[], GC.nil _ _ _, rfl, fun k v s h => by simp at h⟩
  have hon : ∀ x, blkOf (.slice none 0 0) x → ¬ F x ∧ x ≠ w2.heap.size := fun x ⟨n, c', h⟩ => by simp at h
  have st4 : Stp Z w4 F p w2.heap.size N most ⟨[r0, r1, r2, r3, r4, r5, r6, r7], cells, pc, steps + 1, calls, en, cde, value, dev, conds⟩ [vi r0, vi r1, vi r2, vi r3, vi r4, vi r5, vi r6, vi r7, c, vi pc, vi (steps + 1), vi calls, vi en, vi cde, vi value, a, b, vi dev.ep, d] ⟨0, 0, 0, 0, 0⟩ inputs mw (.slice none 0 0) [] 0 := ⟨hd.keepN k04, hnF, b4, hoo _, hon, hs4, fun x hx => hZn x (Nat.le_trans k04.size hx)⟩
  have hB' : Bnd ⟨[r0, r1, r2, r3, r4, r5, r6, r7], cells, pc, steps + 1, calls, en, cde, value, dev, conds⟩ := ⟨hB.pc, hB.calls, hB.ep, hB.cells, hB.disk, hB.pend, hB.conds⟩
  generalize hpb : w2.heap.size = pb at *
  have bad : ∀ w5, Keep w4 w5 No → insAt code pc = none → ∀ R : Kt, (∀ r w', StepQ Z w F p most (stepN most N code ⟨[r0, r1, r2, r3, r4, r5, r6, r7], cells, pc, steps, calls, en, cde, value, dev, conds⟩ inputs mw) r w' → R r w') → M.call Tryz.prog 22 #[ptr pb, (Value.int IntKind.i64 256)] (fun t57 w =>
      M.buildSlice 39 19 #[.int .i64 0, .int .i64 0, .int .i64 0, .int .i64 0, .int .i64 0, .int .i64 0, .int .i64 0, .int .i64 0, .slice none 0 0, .int .i64 0, .int .i64 0, .int .i64 0, .int .i64 0, .int .i64 0, .int .i64 0, .slice none 0 0, .slice none 0 0, .int .i64 0, .slice none 0 0] 1 [(0, t57)] (fun t58 w =>
      R (.tuple #[t58, (Value.int IntKind.i64 0)]) w) w) w5 := by
    intro w5 k5 hno R hR
    have st5 := st4.keepN k5
    refine M.call_i (trap37_ret (c := c) (a := a) (b := b) (d := d) st5 rfl 256) ?_; rintro _ w6 ⟨rfl, k6⟩
    have st6 := st5.keepN k6
    refine M.buildSlice_i ((Sy.trap ⟨[r0, r1, r2, r3, r4, r5, r6, r7], cells, pc, steps + 1, calls, en, cde, value, dev, conds⟩ 256).vals c a b d) (by kernel_rfl) (fun w7 b7 k7 s7 => ?_)
    have st7 := st6.keepN k7
    have k07 := ((k04.trans k5 (fun _ _ h => h)).trans k6 (fun _ _ h => h)).trans k7 (fun _ _ h => h)
    refine hR _ _ ?_
    rw [eN, hno]
    have q6 := ((k04.trans k5 (fun _ _ h => h)).trans k6 (fun _ _ h => h)).size
    have hnew : ¬ F w6.heap.size := fun h => by have := hd.lt h; omega
    refine ⟨F, _, rfl, st7.dag, fun _ _ h => h, k07.mono (fun _ _ h => h.elim), _, _, [(Sy.trap ⟨[r0, r1, r2, r3, r4, r5, r6, r7], cells, pc, steps + 1, calls, en, cde, value, dev, conds⟩ 256).vals c a b d], rfl, ?_, rfl, Nat.le_refl _, fun k u t g1 g2 => ?_⟩
    · simpa using (Row.of_blk' (D := fun x => ¬ F x ∧ Z x) b7 ⟨hnew, hZn _ q6⟩)
    · match k, g1, g2 with
      | 0, g1, g2 =>
        simp only [List.getElem?_cons_zero, Option.some.injEq] at g1 g2
        subst g1 g2
        exact (SyO.of_vals (t := Sy.trap ⟨[r0, r1, r2, r3, r4, r5, r6, r7], cells, pc, steps + 1, calls, en, cde, value, dev, conds⟩ 256) rfl (st7.lists rfl)).mono (fun x _ h => ⟨h.1, h.2.2.2⟩)
      | k + 1, g1, _ => simp at g1
  have good : ∀ w5 i, Keep w4 w5 No → insAt code pc = some i → True := fun _ _ _ _ => trivial
  by_cases hp0 : pc < 0
  · have hno : insAt code pc = none := by unfold insAt; rw [if_neg (by omega)]
    (repeat (first|refine jc ?_|refine ji ?_|refine jk ?_|refine jo ?_|refine jy ?_|refine jN (by assumption) rfl ?_))
    exact bad w4 (Keep.refl _ _) hno _ (fun _ _ h => h)
  by_cases hpl : (code.length : Int) ≤ pc
  · have hno : insAt code pc = none := by unfold insAt; rw [if_neg (by omega)]
    (repeat (first|refine ja ?_|refine jc ?_|refine jg ?_|refine ji ?_|refine jk ?_|refine jl ?_|refine jo ?_|refine jz ?_|refine jE ?_|refine jN (by assumption) rfl ?_))
    exact bad w4 (Keep.refl _ _) hno _ (fun _ _ h => h)
  obtain ⟨i, hi⟩ : ∃ i, code[pc.toNat]? = some i := ⟨_, List.getElem?_eq_getElem (by omega)⟩
  have hins : insAt code pc = if okI i code.length then some i else none := by
    unfold insAt
    rw [if_pos (by omega), hi]
  have hrC4 := hrC.keep k04 (fun _ _ _ h => h)
  (repeat (first|refine ja ?_|refine jc ?_|refine jg ?_|refine jl ?_|refine jz ?_|refine jF ?_|refine jN (by assumption) rfl ?_))
  refine M.idxF_i Ins.cells_len (by omega) hrC4 rfl (by omega) (x := i) hi (fun bb oo hcc => ?_)
  have hld : ∀ w', Keep w4 w' No → ∀ (kt : Kt), kt (encI i) w' → M.loadA 5 (.pointer (some ⟨bb, oo, none⟩)) kt w' := by
    intro w' k' kt hkt
    have hr5 : rdL w' ⟨bb, oo, none⟩ 5 0 = some (i.cells.drop 0) := rdL_cells 5 0 (fun j hj => k'.cell (fun h => h) (hcc j _ (List.getElem?_eq_getElem hj))) rfl
    unfold M.loadA
    simp only [hr5]
    exact hkt
  (repeat (refine jg ?_))
  refine hld w4 (Keep.refl _ _) _ ?_
  (repeat (first|refine ja ?_|refine jg ?_))
  refine M.call_i (icheck_ret i hcl w4) ?_
  rintro _ w5 ⟨e, rfl, he, k5⟩
  have st5 := st4.keepN k5
  have b5t := b4t.keep k5 (fun h => h)
  by_cases hok : okI i code.length = true
  case neg =>
    have hno : insAt code pc = none := by rw [hins, if_neg hok]
    have he0 : ¬ e = 0 := fun h => hok (he.1 h)
    (repeat (first|refine jg ?_|refine jl ?_|refine jo ?_|refine jI ?_))
    exact bad w5 k5 hno _ (fun _ _ h => h)
  have hsome : insAt code pc = some i := by rw [hins, if_pos hok]
  have he0 : e = 0 := he.2 hok
  have k05 := k04.trans k5 (fun _ _ h => h)
  have hrC5 := hrC.keep k05 (fun _ _ _ h => h)
  (repeat (first|refine jc ?_|refine jg ?_|refine jl ?_|refine jp ?_|refine jJ ?_|refine jN (by assumption) rfl ?_))
  refine M.idxF_i Ins.cells_len (by omega) hrC5 rfl (by omega) (x := i) hi (fun bb2 oo2 hcc2 => ?_)
  have hr5 : rdL w5 ⟨bb2, oo2, none⟩ 5 0 = some (i.cells.drop 0) := rdL_cells 5 0 (fun j hj => hcc2 j _ (List.getElem?_eq_getElem hj)) rfl
  have hld2 : ∀ (kt : Kt), kt (encI i) w5 → M.loadA 5 (.pointer (some ⟨bb2, oo2, none⟩)) kt w5 := fun kt hkt => by
    unfold M.loadA
    simp only [hr5]
    exact hkt
  refine hld2 _ ?_
  (repeat (first|refine jb ?_|refine jc ?_))
  refine M.storePart_i st5.blk rfl (by rw [stpL_len rfl]; omega) (by
    simp only [Ins.cells, List.mem_cons, List.not_mem_nil, or_false, forall_eq_or_imp, forall_eq]
    exact ⟨rfl, rfl, rfl, rfl, rfl⟩) (fun w6 b6 k6 s6 => ?_)
  have b6 : Blk w6 pb (stpL p [vi r0, vi r1, vi r2, vi r3, vi r4, vi r5, vi r6, vi r7, c, vi pc, vi (steps + 1), vi calls, vi en, vi cde, vi value, a, b, vi dev.ep, d] i inputs mw (.slice none 0 0) 0) := b6
  have k06 : Keep w w6 No := k05.trans k6 (fun x hx e => by have e : x = pb := e; omega)
  have hs6 : SyO w6 (Fr Z F pb (.slice none 0 0)) (.agg ⟨[vi r0, vi r1, vi r2, vi r3, vi r4, vi r5, vi r6, vi r7, c, vi pc, vi (steps + 1), vi calls, vi en, vi cde, vi value, a, b, vi dev.ep, d]⟩) ⟨[r0, r1, r2, r3, r4, r5, r6, r7], cells, pc, steps + 1, calls, en, cde, value, dev, conds⟩ :=
    ⟨rfl, c, a, b, d, rfl, (hc.keep k06 (fun _ _ _ h => h)).mono (fun x _ h => hfr x h), (hdv.keep k06 (fun _ _ _ h => h)).mono (fun x _ h => hfr x h), (hcd.keep k06 (fun _ _ _ h => h)).mono (fun x _ h => hfr x h)⟩
  have st6 : Stp Z w6 F p pb N most ⟨[r0, r1, r2, r3, r4, r5, r6, r7], cells, pc, steps + 1, calls, en, cde, value, dev, conds⟩ [vi r0, vi r1, vi r2, vi r3, vi r4, vi r5, vi r6, vi r7, c, vi pc, vi (steps + 1), vi calls, vi en, vi cde, vi value, a, b, vi dev.ep, d] i inputs mw (.slice none 0 0) [] 0 := ⟨hd.keepN k06, hnF, b6, hoo _, hon, hs6, fun x hx => hZn x (Nat.le_trans k06.size hx)⟩
  refine M.call_i (step37_ret (c := c) (a := a) (b := b) (d := d) st6 rfl hB' hcl hok hin) ?_
  rintro _ w7 ⟨rfl, F7, ov7, st7, m7⟩
  have hce7 := st7.ce
  have k07 : Keep w w7 F := (k06.mono (fun _ _ h => h.elim)).trans m7.keep (fun x hx e => by
    rcases e with e | e | ⟨n, c', e⟩
    · exact e
    · omega
    · simp at e)
  have hFF : ∀ x, x < w.heap.size → F7 x → F x := fun x hx h => m7.fF x (by have := k06.size; omega) h
  rw [eN, hsome]
  simp only []
  generalize stepI most N ⟨[r0, r1, r2, r3, r4, r5, r6, r7], cells, pc, steps + 1, calls, en, cde, value, dev, conds⟩ i inputs mw = R at st7 hce7 ⊢
  by_cases hR : R.2.1 = 0
  · rw [if_pos hR]
    have hco7 := st7.co
    (repeat (first|refine jb ?_|refine jc ?_|refine jp ?_|refine jJ ?_|refine jM (by assumption) ?_))
    obtain ⟨cs, g1, g2, g3⟩ := st7.oo
    obtain ⟨A, cap, eA, hrA, hcap⟩ := GC.row2 g1 (by omega)
    refine ⟨F7, ov7, by rw [hR], st7.dag, hFF, k07, A, cap, cs, eA, hrA.mono (fun x _ h => ⟨(st7.on x h).1, hZn x (Nat.le_of_not_lt (fun hlt => by obtain ⟨n, c', e⟩ := m7.fo x (Nat.lt_of_lt_of_le hlt k06.size) h; simp at e))⟩), g2, hcap, fun k u t h1 h2 => (g3 k u t h1 h2).mono (fun x _ h => ⟨h.1, h.2.2.2⟩)⟩
  · rw [if_neg hR]
    have kd := Keep.drew w7 No
    have st8 := st7.keepN kd
    have hce8 := st8.ce
    (repeat (first|refine jb ?_|refine jc ?_|refine jd ?_|refine jo ?_|refine jI ?_|refine jM (by assumption) ?_))
    exact ⟨F7, _, rfl, st8.dag, hFF, k07.trans kd (fun _ _ h => h.elim), OutS.nil _ _⟩
theorem Step37_ret {D1 : Nat → Prop} {code : List Ins} {cv v : Value} {inputs mw : Int} (hd : DagO w F p N most) (hcode : LN Ins.cells w D1 cv code) (hcl : code.length ≤ 1000000) (hs : SyO w D v s) (hD : ∀ x, D x → ¬ F x) (hB : Bnd s) (hst : 0 ≤ s.steps ∧ s.steps ≤ 1000000) (hin : inputs ≤ 1000000) :
    Ret Tryz.prog 12 #[ptr p, cv, v, vi inputs, vi mw] w (StepP w F p most (stepN most N code s inputs mw)) := by
  refine (Step37_z (Z := fun _ => True) hd hcode hcl hs hD hB hst hin (fun _ _ => trivial) (fun _ _ => trivial)).mono ?_
  rintro r w' ⟨F', u, h1, h2, h3, h4, A, cap, cs, g1, g2, g3, g4, g5⟩
  exact ⟨F', u, h1, h2, h3, h4, A, cap, cs, g1, g2.mono (fun x _ h => h.1), g3, g4, fun k a t q1 q2 => (g5 k a t q1 q2).mono (fun x _ h => h.1)⟩
end
end Go.Proofs.YtanjlgafjgoaaaaGreat
