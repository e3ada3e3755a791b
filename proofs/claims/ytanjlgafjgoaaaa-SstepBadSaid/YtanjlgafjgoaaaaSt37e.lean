import Derived.Test.YtanjlgafjgoaaaaSt37d
namespace Go.Proofs.Ytanjlgafjgoaaaa
open Go.Mw
set_option linter.unusedVariables false
set_option linter.unusedSimpArgs false
set_option maxRecDepth 100000
attribute [local irreducible] M.val M.unit M.next M.pick M.new M.nilCheck M.load1 M.loadA M.store M.fieldAddr M.indexSl M.indexArr M.slice M.makeSlice M.buildSlice M.len M.lenS M.cap M.append M.extract M.conv M.not M.neg M.bin M.shift M.eqB M.eqNil M.scat M.call M.callv M.gd M.share M.cond M.loop M.draw pureW readW Ret
/-! (*breakwater/sstep.stepper).load$1: function 56 -/
def sh56 (x0 x1 : Value) (R : Kt) (w : World) : Prop :=
  M.new 42 #[.int .i64 0, .int .i64 0, .int .i64 0, .int .i64 0, .int .i64 0, .int .i64 0, .int .i64 0, .int .i64 0, .slice none 0 0, .int .i64 0, .int .i64 0, .int .i64 0, .int .i64 0, .int .i64 0, .int .i64 0, .slice none 0 0, .slice none 0 0, .int .i64 0, .slice none 0 0] (fun t3 w =>
  M.draw (fun w =>
  M.load1 x1 (fun t4 w =>
  M.load1 x1 (fun t5 w =>
  M.nilCheck t5 (fun t6 w =>
  M.fieldAddr 1 t6 (fun t7 w =>
  M.fieldAddr 8 t7 (fun t8 w =>
  M.load1 t8 (fun t9 w =>
  M.indexSl 1 t9 x0 (fun t11 w =>
  M.load1 t11 (fun t12 w =>
  M.call Try.prog 26 #[t4, t12] (fun t13 w =>
  ((M.load1 t8 (fun v' _ => v' = t9) w) ∧ ((M.load1 x1 (fun v' _ => v' = t5) w) ∧ M.store 19 t3 t13 (fun _ w =>
  M.loadA 19 t3 (fun r0 w => R r0 w) w) w))) w) w) w) w) w) w) w) w) w) w) w
theorem ok56 (x0 x1 : Value) (R : Kt) (w : World) (h : sh56 x0 x1 R w) : Ret Try.prog 56 #[x0, x1] w R :=
  ret_mk <| calls_of_comp mixed (c := Try.f56.body.getD .skip) (args := [x0, x1]) (rs := [(ResultVar.cell 3 42)]) (Ann.seq Ann.text (Ann.seq (Ann.draw (Sch.take 0 (Sch.take 1 (Sch.take 2 (Sch.take 3 (Sch.take 4 (Sch.take 5 (Sch.take 6 (Sch.take 7 (Sch.take 8 (Sch.one 9 (Sch.one 10 Sch.done)))))))))))) Ann.leaf))
    Try.func56 (by kernel_rfl) (by kernel_rfl)
    (Eq.mp (by kernel_rfl) h)
/-! (*breakwater/sstep.stepper).store$1: function 57 -/
def sh57 (x0 x1 : Value) (R : Kt) (w : World) : Prop :=
  M.new 42 #[.int .i64 0, .int .i64 0, .int .i64 0, .int .i64 0, .int .i64 0, .int .i64 0, .int .i64 0, .int .i64 0, .slice none 0 0, .int .i64 0, .int .i64 0, .int .i64 0, .int .i64 0, .int .i64 0, .int .i64 0, .slice none 0 0, .slice none 0 0, .int .i64 0, .slice none 0 0] (fun t3 w =>
  M.load1 x1 (fun t5 w =>
  M.call Try.prog 48 #[t5] (fun t6 w =>
  M.new 42 #[.int .i64 0, .int .i64 0, .int .i64 0, .int .i64 0, .int .i64 0, .int .i64 0, .int .i64 0, .int .i64 0, .slice none 0 0, .int .i64 0, .int .i64 0, .int .i64 0, .int .i64 0, .int .i64 0, .int .i64 0, .slice none 0 0, .slice none 0 0, .int .i64 0, .slice none 0 0] (fun t4 w =>
  M.store 19 t4 t6 (fun _ w =>
  M.fieldAddr 8 t4 (fun t7 w =>
  M.load1 t7 (fun t8 w =>
  M.call Try.prog 58 #[t8] (fun t9 w =>
  M.fieldAddr 8 t4 (fun t10 w =>
  M.store 1 t10 t9 (fun _ w =>
  M.draw (fun w =>
  M.fieldAddr 8 t4 (fun t11 w =>
  M.load1 t11 (fun t12 w =>
  M.load1 x1 (fun t14 w =>
  M.load1 x1 (fun t15 w =>
  M.nilCheck t15 (fun t16 w =>
  M.fieldAddr 20 t16 (fun t17 w =>
  M.fieldAddr 2 t17 (fun t18 w =>
  M.load1 t18 (fun t19 w =>
  M.nilCheck t14 (fun t20 w =>
  M.fieldAddr 1 t20 (fun t21 w =>
  M.fieldAddr 0 t21 (fun t22 w =>
  M.indexArr 8 1 t22 t19 (fun t23 w =>
  M.load1 t23 (fun t24 w =>
  M.indexSl 1 t12 x0 (fun t25 w =>
  M.store 1 t25 t24 (fun _ w =>
  M.loadA 19 t4 (fun t26 w =>
  M.store 19 t3 t26 (fun _ w =>
  M.loadA 19 t3 (fun r0 w => R r0 w) w) w) w) w) w) w) w) w) w) w) w) w) w) w) w) w) w) w) w) w) w) w) w) w) w) w) w) w) w
theorem ok57 (x0 x1 : Value) (R : Kt) (w : World) (h : sh57 x0 x1 R w) : Ret Try.prog 57 #[x0, x1] w R :=
  ret_mk <| calls_of_comp mixed (c := Try.f57.body.getD .skip) (args := [x0, x1]) (rs := [(ResultVar.cell 3 42)]) (Ann.seq Ann.text (Ann.seq Ann.text (Ann.seq Ann.text (Ann.seq (Ann.draw (Sch.take 0 (Sch.take 1 (Sch.take 2 (Sch.take 3 (Sch.take 4 (Sch.take 5 (Sch.take 6 (Sch.take 7 (Sch.take 8 (Sch.take 9 (Sch.take 10 (Sch.take 11 (Sch.take 12 (Sch.take 13 (Sch.take 14 (Sch.one 15 Sch.done))))))))))))))))) (Ann.seq Ann.text Ann.leaf)))))
    Try.func57 (by kernel_rfl) (by kernel_rfl)
    (Eq.mp (by kernel_rfl) h)
/-! (*breakwater/sstep.stepper).read$1: function 60 -/
def sh60 (x0 x1 : Value) (R : Kt) (w : World) : Prop :=
  M.new 42 #[.int .i64 0, .int .i64 0, .int .i64 0, .int .i64 0, .int .i64 0, .int .i64 0, .int .i64 0, .int .i64 0, .slice none 0 0, .int .i64 0, .int .i64 0, .int .i64 0, .int .i64 0, .int .i64 0, .int .i64 0, .slice none 0 0, .slice none 0 0, .int .i64 0, .slice none 0 0] (fun t3 w =>
  M.load1 x1 (fun t7 w =>
  M.nilCheck t7 (fun t8 w =>
  M.fieldAddr 1 t8 (fun t9 w =>
  M.fieldAddr 15 t9 (fun t10 w =>
  M.fieldAddr 0 t10 (fun t11 w =>
  M.load1 t11 (fun t12 w =>
  M.indexSl 1 t12 x0 (fun t14 w =>
  M.load1 t14 (fun t15 w =>
  M.load1 x1 (fun t16 w =>
  M.nilCheck t16 (fun t17 w =>
  M.fieldAddr 1 t17 (fun t18 w =>
  M.fieldAddr 15 t18 (fun t19 w =>
  M.fieldAddr 1 t19 (fun t20 w =>
  M.load1 t20 (fun t21 w =>
  M.len t21 (fun t22 w =>
  M.loop [t15, (Value.int IntKind.i64 0)] (fun s1 K1 w => ∀ _ : List Value,
  M.bin .lss (s1.getD 1 undef) t22 (fun t24 w =>
  M.cond t24
  (M.share (fun K2 w =>
  M.indexSl 3 t21 (s1.getD 1 undef) (fun t25 w =>
  M.loadA 3 t25 (fun t26 w =>
  M.new 72 #[.int .i64 0, .int .i64 0, .int .i64 0] (fun t6 w =>
  M.store 3 t6 t26 (fun _ w =>
  M.fieldAddr 0 t6 (fun t27 w =>
  M.load1 t27 (fun t28 w =>
  M.bin .eql t28 x0 (fun t30 w =>
  M.cond t30
  (M.fieldAddr 1 t6 (fun t31 w =>
  M.load1 t31 (fun t32 w =>
  K2 [t32] w) w) w)
  (K2 [(s1.getD 0 undef)] w)) w) w) w) w) w) w) w) (fun s2 w => ∀ _ : List Value,
  M.bin .add (s1.getD 1 undef) (Value.int IntKind.i64 1) (fun t33 w =>
  K1 [(s2.getD 0 undef), t33] w) w) w)
  (M.load1 x1 (fun t34 w =>
  M.call Try.prog 26 #[t34, (s1.getD 0 undef)] (fun t36 w =>
  M.store 19 t3 t36 (fun _ w =>
  M.loadA 19 t3 (fun r0 w => R r0 w) w) w) w) w)) w) w) w) w) w) w) w) w) w) w) w) w) w) w) w) w) w) w
theorem ok60 (x0 x1 : Value) (R : Kt) (w : World) (h : sh60 x0 x1 R w) : Ret Try.prog 60 #[x0, x1] w R :=
  ret_mk <| calls_of_comp mixed (c := Try.f60.body.getD .skip) (args := [x0, x1]) (rs := [(ResultVar.cell 3 42)]) (Ann.seq Ann.text (Ann.seq Ann.text (Ann.seq (Ann.seq Ann.text (Ann.block (Ann.loop [4, 23] [6, 24, 25, 26, 27, 28, 29, 30, 31, 32, 33] (Ann.seq Ann.text (Ann.seq (Ann.cond Ann.leaf Ann.leaf) (Ann.seq (Ann.jblock [4] [6, 25, 26, 27, 28, 29, 30, 31, 32] (Ann.seq Ann.text (Ann.seq Ann.text (Ann.cond Ann.text Ann.leaf)))) Ann.text)))))) (Ann.seq Ann.text Ann.leaf))))
    Try.func60 (by kernel_rfl) (by kernel_rfl)
    (Eq.mp (by kernel_rfl) h)
/-! (*breakwater/sstep.stepper).write$1: function 61 -/
def sh61 (x0 x1 : Value) (R : Kt) (w : World) : Prop :=
  M.new 42 #[.int .i64 0, .int .i64 0, .int .i64 0, .int .i64 0, .int .i64 0, .int .i64 0, .int .i64 0, .int .i64 0, .slice none 0 0, .int .i64 0, .int .i64 0, .int .i64 0, .int .i64 0, .int .i64 0, .int .i64 0, .slice none 0 0, .slice none 0 0, .int .i64 0, .slice none 0 0] (fun t3 w =>
  M.load1 x1 (fun t5 w =>
  M.nilCheck t5 (fun t6 w =>
  M.fieldAddr 1 t6 (fun t7 w =>
  M.fieldAddr 15 t7 (fun t8 w =>
  M.loadA 3 t8 (fun t9 w =>
  M.new 37 #[.slice none 0 0, .slice none 0 0, .int .i64 0] (fun t4 w =>
  M.store 3 t4 t9 (fun _ w =>
  M.draw (fun w =>
  M.fieldAddr 1 t4 (fun t10 w =>
  M.load1 t10 (fun t11 w =>
  M.len t11 (fun t12 w =>
  M.load1 x1 (fun t13 w =>
  M.nilCheck t13 (fun t14 w =>
  M.fieldAddr 26 t14 (fun t15 w =>
  M.load1 t15 (fun t16 w =>
  M.bin .geq t12 t16 (fun t17 w =>
  M.cond t17
  (M.load1 x1 (fun t18 w =>
  M.call Try.prog 17 #[t18, (Value.int IntKind.i64 259)] (fun t19 w =>
  M.store 19 t3 t19 (fun _ w =>
  M.loadA 19 t3 (fun r0 w => R r0 w) w) w) w) w)
  (M.share (fun K1 w =>
  M.draw (fun w =>
  M.fieldAddr 1 t4 (fun t20 w =>
  M.load1 t20 (fun t21 w =>
  M.load1 x1 (fun t24 w =>
  M.load1 x1 (fun t25 w =>
  M.nilCheck t25 (fun t26 w =>
  M.fieldAddr 20 t26 (fun t27 w =>
  M.fieldAddr 2 t27 (fun t28 w =>
  M.load1 t28 (fun t29 w =>
  M.nilCheck t24 (fun t30 w =>
  M.fieldAddr 1 t30 (fun t31 w =>
  M.fieldAddr 0 t31 (fun t32 w =>
  M.indexArr 8 1 t32 t29 (fun t33 w =>
  M.load1 t33 (fun t34 w =>
  M.fieldAddr 2 t4 (fun t35 w =>
  M.load1 t35 (fun t36 w =>
  pureW Try.prog (Instr.build 72 #[(0, x0), (1, t34), (2, t36)]) (fun t37 w =>
  ((M.call Try.prog 62 #[t21] (fun t22 w =>
  ((M.load1 t35 (fun v' _ => v' = t36) w) ∧ ((M.load1 t33 (fun v' _ => v' = t34) w) ∧ ((M.load1 t28 (fun v' _ => v' = t29) w) ∧ ((M.load1 x1 (fun v' _ => v' = t25) w) ∧ ((M.load1 x1 (fun v' _ => v' = t24) w) ∧ M.buildSlice 72 3 #[.int .i64 0, .int .i64 0, .int .i64 0] 1 [(0, t37)] (fun t38 w =>
  ((M.load1 t35 (fun v' _ => v' = t36) w) ∧ ((M.load1 t33 (fun v' _ => v' = t34) w) ∧ ((M.load1 t28 (fun v' _ => v' = t29) w) ∧ ((M.load1 x1 (fun v' _ => v' = t25) w) ∧ ((M.load1 x1 (fun v' _ => v' = t24) w) ∧ M.append 72 3 24 #[.int .i64 0, .int .i64 0, .int .i64 0] t22 t38 (fun t39 w =>
  ((M.load1 t35 (fun v' _ => v' = t36) w) ∧ ((M.load1 t33 (fun v' _ => v' = t34) w) ∧ ((M.load1 t28 (fun v' _ => v' = t29) w) ∧ ((M.load1 x1 (fun v' _ => v' = t25) w) ∧ ((M.load1 x1 (fun v' _ => v' = t24) w) ∧ M.fieldAddr 1 t4 (fun t40 w =>
  M.store 1 t40 t39 (fun _ w =>
  K1 [] w) w) w)))))) w)))))) w)))))) w) ∧
   (M.buildSlice 72 3 #[.int .i64 0, .int .i64 0, .int .i64 0] 1 [(0, t37)] (fun t38_2 w =>
  ((M.load1 t35 (fun v' _ => v' = t36) w) ∧ ((M.load1 t33 (fun v' _ => v' = t34) w) ∧ ((M.load1 t28 (fun v' _ => v' = t29) w) ∧ ((M.load1 x1 (fun v' _ => v' = t25) w) ∧ ((M.load1 x1 (fun v' _ => v' = t24) w) ∧ ((M.load1 t20 (fun v' _ => v' = t21) w) ∧ M.call Try.prog 62 #[t21] (fun t22_2 w =>
  ((M.load1 t35 (fun v' _ => v' = t36) w) ∧ ((M.load1 t33 (fun v' _ => v' = t34) w) ∧ ((M.load1 t28 (fun v' _ => v' = t29) w) ∧ ((M.load1 x1 (fun v' _ => v' = t25) w) ∧ ((M.load1 x1 (fun v' _ => v' = t24) w) ∧ M.append 72 3 24 #[.int .i64 0, .int .i64 0, .int .i64 0] t22_2 t38_2 (fun t39_2 w =>
  ((M.load1 t35 (fun v' _ => v' = t36) w) ∧ ((M.load1 t33 (fun v' _ => v' = t34) w) ∧ ((M.load1 t28 (fun v' _ => v' = t29) w) ∧ ((M.load1 x1 (fun v' _ => v' = t25) w) ∧ ((M.load1 x1 (fun v' _ => v' = t24) w) ∧ M.fieldAddr 1 t4 (fun t40_2 w =>
  M.store 1 t40_2 t39_2 (fun _ w =>
  K1 [] w) w) w)))))) w)))))) w))))))) w))) w) w) w) w) w) w) w) w) w) w) w) w) w) w) w) w) w) (fun s1 w => ∀ _ : List Value,
  M.load1 x1 (fun t41 w =>
  M.loadA 3 t4 (fun t42 w =>
  M.call Try.prog 63 #[t41, t42] (fun t43 w =>
  M.store 19 t3 t43 (fun _ w =>
  M.loadA 19 t3 (fun r0 w => R r0 w) w) w) w) w) w) w)) w) w) w) w) w) w) w) w) w) w) w) w) w) w) w) w) w
theorem ok61 (x0 x1 : Value) (R : Kt) (w : World) (h : sh61 x0 x1 R w) : Ret Try.prog 61 #[x0, x1] w R :=
  ret_mk <| calls_of_comp mixed (c := Try.f61.body.getD .skip) (args := [x0, x1]) (rs := [(ResultVar.cell 3 42)]) (Ann.seq Ann.text (Ann.seq Ann.text (Ann.seq (Ann.seq (Ann.draw (Sch.take 0 (Sch.take 1 (Sch.take 2 (Sch.take 3 (Sch.take 4 (Sch.take 5 (Sch.take 6 (Sch.take 7 Sch.done))))))))) (Ann.cond (Ann.seq Ann.text Ann.leaf) Ann.leaf)) (Ann.join [] [20, 21, 22, 23, 24, 25, 26, 27, 28, 29, 30, 31, 32, 33, 34, 35, 36, 37, 38, 39, 40] (Ann.draw (Sch.take 0 (Sch.take 1 (Sch.take 3 (Sch.take 4 (Sch.take 5 (Sch.take 6 (Sch.take 7 (Sch.take 8 (Sch.take 9 (Sch.take 10 (Sch.take 11 (Sch.take 12 (Sch.take 13 (Sch.take 14 (Sch.take 15 (Sch.take 16 (Sch.take 17 (Sch.two 2 18 (Sch.one 18 (Sch.one 19 (Sch.take 20 (Sch.one 21 Sch.done)))) (Sch.one 2 (Sch.one 19 (Sch.take 20 (Sch.one 21 Sch.done))))))))))))))))))))))) (Ann.seq Ann.text Ann.leaf)))))
    Try.func61 (by kernel_rfl) (by kernel_rfl)
    (Eq.mp (by kernel_rfl) h)
/-! (*breakwater/sstep.stepper).load: function 33 -/
def sh33 (x0 : Value) (R : Kt) (w : World) : Prop :=
  M.new 63 (Value.cells x0) (fun t1 w =>
  M.draw (fun w =>
  M.load1 t1 (fun t2 w =>
  M.load1 t1 (fun t3 w =>
  M.nilCheck t3 (fun t4 w =>
  M.fieldAddr 20 t4 (fun t5 w =>
  M.fieldAddr 2 t5 (fun t6 w =>
  M.load1 t6 (fun t7 w =>
  M.load1 t1 (fun t8 w =>
  M.nilCheck t8 (fun t9 w =>
  M.fieldAddr 1 t9 (fun t10 w =>
  M.fieldAddr 8 t10 (fun t11 w =>
  M.load1 t11 (fun t12 w =>
  M.len t12 (fun t13 w =>
  M.call Try.prog 55 #[t2, t7, t13, (Value.int IntKind.i64 257), (.func (Fn.func 56) #[] #[t1])] (fun t15 w =>
  ((M.load1 t11 (fun v' _ => v' = t12) w) ∧ ((M.load1 t1 (fun v' _ => v' = t8) w) ∧ ((M.load1 t1 (fun v' _ => v' = t3) w) ∧ R (.tuple #[]) w)))) w) w) w) w) w) w) w) w) w) w) w) w) w) w) w
theorem ok33 (x0 : Value) (R : Kt) (w : World) (h : sh33 x0 R w) : Ret Try.prog 33 #[x0] w R :=
  ret_mk <| calls_of_comp mixed (c := Try.f33.body.getD .skip) (args := [x0]) (rs := []) (Ann.seq Ann.text (Ann.draw (Sch.take 0 (Sch.take 1 (Sch.take 2 (Sch.take 3 (Sch.take 4 (Sch.take 5 (Sch.take 6 (Sch.take 7 (Sch.take 8 (Sch.take 9 (Sch.take 10 (Sch.take 11 (Sch.take 12 (Sch.one 13 Sch.done))))))))))))))))
    Try.func33 (by kernel_rfl) (by kernel_rfl)
    (Eq.mp (by kernel_rfl) h)
/-! (*breakwater/sstep.stepper).store: function 34 -/
def sh34 (x0 : Value) (R : Kt) (w : World) : Prop :=
  M.new 63 (Value.cells x0) (fun t1 w =>
  M.draw (fun w =>
  M.load1 t1 (fun t2 w =>
  M.load1 t1 (fun t3 w =>
  M.nilCheck t3 (fun t4 w =>
  M.fieldAddr 20 t4 (fun t5 w =>
  M.fieldAddr 1 t5 (fun t6 w =>
  M.load1 t6 (fun t7 w =>
  M.load1 t1 (fun t8 w =>
  M.nilCheck t8 (fun t9 w =>
  M.fieldAddr 1 t9 (fun t10 w =>
  M.fieldAddr 8 t10 (fun t11 w =>
  M.load1 t11 (fun t12 w =>
  M.len t12 (fun t13 w =>
  M.call Try.prog 55 #[t2, t7, t13, (Value.int IntKind.i64 257), (.func (Fn.func 57) #[] #[t1])] (fun t15 w =>
  ((M.load1 t11 (fun v' _ => v' = t12) w) ∧ ((M.load1 t1 (fun v' _ => v' = t8) w) ∧ ((M.load1 t1 (fun v' _ => v' = t3) w) ∧ R (.tuple #[]) w)))) w) w) w) w) w) w) w) w) w) w) w) w) w) w) w
theorem ok34 (x0 : Value) (R : Kt) (w : World) (h : sh34 x0 R w) : Ret Try.prog 34 #[x0] w R :=
  ret_mk <| calls_of_comp mixed (c := Try.f34.body.getD .skip) (args := [x0]) (rs := []) (Ann.seq Ann.text (Ann.draw (Sch.take 0 (Sch.take 1 (Sch.take 2 (Sch.take 3 (Sch.take 4 (Sch.take 5 (Sch.take 6 (Sch.take 7 (Sch.take 8 (Sch.take 9 (Sch.take 10 (Sch.take 11 (Sch.take 12 (Sch.one 13 Sch.done))))))))))))))))
    Try.func34 (by kernel_rfl) (by kernel_rfl)
    (Eq.mp (by kernel_rfl) h)
/-! (*breakwater/sstep.stepper).read: function 36 -/
def sh36 (x0 : Value) (R : Kt) (w : World) : Prop :=
  M.new 63 (Value.cells x0) (fun t1 w =>
  M.draw (fun w =>
  M.load1 t1 (fun t2 w =>
  M.load1 t1 (fun t3 w =>
  M.nilCheck t3 (fun t4 w =>
  M.fieldAddr 20 t4 (fun t5 w =>
  M.fieldAddr 2 t5 (fun t6 w =>
  M.load1 t6 (fun t7 w =>
  M.load1 t1 (fun t8 w =>
  M.nilCheck t8 (fun t9 w =>
  M.fieldAddr 1 t9 (fun t10 w =>
  M.fieldAddr 15 t10 (fun t11 w =>
  M.fieldAddr 0 t11 (fun t12 w =>
  M.load1 t12 (fun t13 w =>
  M.len t13 (fun t14 w =>
  M.call Try.prog 55 #[t2, t7, t14, (Value.int IntKind.i64 258), (.func (Fn.func 60) #[] #[t1])] (fun t16 w =>
  ((M.load1 t12 (fun v' _ => v' = t13) w) ∧ ((M.load1 t1 (fun v' _ => v' = t8) w) ∧ ((M.load1 t1 (fun v' _ => v' = t3) w) ∧ R (.tuple #[]) w)))) w) w) w) w) w) w) w) w) w) w) w) w) w) w) w) w
theorem ok36 (x0 : Value) (R : Kt) (w : World) (h : sh36 x0 R w) : Ret Try.prog 36 #[x0] w R :=
  ret_mk <| calls_of_comp mixed (c := Try.f36.body.getD .skip) (args := [x0]) (rs := []) (Ann.seq Ann.text (Ann.draw (Sch.take 0 (Sch.take 1 (Sch.take 2 (Sch.take 3 (Sch.take 4 (Sch.take 5 (Sch.take 6 (Sch.take 7 (Sch.take 8 (Sch.take 9 (Sch.take 10 (Sch.take 11 (Sch.take 12 (Sch.take 13 (Sch.one 14 Sch.done)))))))))))))))))
    Try.func36 (by kernel_rfl) (by kernel_rfl)
    (Eq.mp (by kernel_rfl) h)
/-! (*breakwater/sstep.stepper).write: function 37 -/
def sh37 (x0 : Value) (R : Kt) (w : World) : Prop :=
  M.new 63 (Value.cells x0) (fun t1 w =>
  M.draw (fun w =>
  M.load1 t1 (fun t2 w =>
  M.load1 t1 (fun t3 w =>
  M.nilCheck t3 (fun t4 w =>
  M.fieldAddr 20 t4 (fun t5 w =>
  M.fieldAddr 1 t5 (fun t6 w =>
  M.load1 t6 (fun t7 w =>
  M.load1 t1 (fun t8 w =>
  M.nilCheck t8 (fun t9 w =>
  M.fieldAddr 1 t9 (fun t10 w =>
  M.fieldAddr 15 t10 (fun t11 w =>
  M.fieldAddr 0 t11 (fun t12 w =>
  M.load1 t12 (fun t13 w =>
  M.len t13 (fun t14 w =>
  M.call Try.prog 55 #[t2, t7, t14, (Value.int IntKind.i64 258), (.func (Fn.func 61) #[] #[t1])] (fun t16 w =>
  ((M.load1 t12 (fun v' _ => v' = t13) w) ∧ ((M.load1 t1 (fun v' _ => v' = t8) w) ∧ ((M.load1 t1 (fun v' _ => v' = t3) w) ∧ R (.tuple #[]) w)))) w) w) w) w) w) w) w) w) w) w) w) w) w) w) w) w
theorem ok37 (x0 : Value) (R : Kt) (w : World) (h : sh37 x0 R w) : Ret Try.prog 37 #[x0] w R :=
  ret_mk <| calls_of_comp mixed (c := Try.f37.body.getD .skip) (args := [x0]) (rs := []) (Ann.seq Ann.text (Ann.draw (Sch.take 0 (Sch.take 1 (Sch.take 2 (Sch.take 3 (Sch.take 4 (Sch.take 5 (Sch.take 6 (Sch.take 7 (Sch.take 8 (Sch.take 9 (Sch.take 10 (Sch.take 11 (Sch.take 12 (Sch.take 13 (Sch.one 14 Sch.done)))))))))))))))))
    Try.func37 (by kernel_rfl) (by kernel_rfl)
    (Eq.mp (by kernel_rfl) h)

section
variable {w : World} {F : Nat → Prop} {p pb : Nat} {N : List Nd} {most : Int} {s : Sy} {sv : List Value} {i : Ins} {inputs mw : Int} {ov : Value} {outs : List Sy} {e : Int} {c a b d : Value}
/-- Bounds of a state. -/
structure Bnd (s : Sy) : Prop where
  pc : 0 ≤ s.pc ∧ s.pc ≤ 1000000
  calls : 0 ≤ s.calls ∧ s.calls ≤ 1000000
  ep : 0 ≤ s.dev.ep ∧ s.dev.ep ≤ 1000000
  cells : s.cells.length ≤ 100000
  disk : s.dev.disk.length ≤ 100000
  pend : s.dev.pend.length ≤ 100000
  conds : s.conds.length ≤ 1000000
def RegsOk (i : Ins) : Prop := (0 ≤ i.a ∧ i.a ≤ 7) ∧ (0 ≤ i.b ∧ i.b ≤ 7) ∧ (0 ≤ i.c ∧ i.c ≤ 7)
section
variable (h : Stp w F p pb N most s sv i inputs mw ov outs e) (hsv : sv = s.vals c a b d)
include h hsv
theorem Stp.csv {k : Nat} {v : Value} (hk : k < 11) (hv : ([c, vi s.pc, vi s.steps, vi s.calls, vi s.en, vi s.code, vi s.value, a, b, vi s.dev.ep, d] : List Value)[k]? = some v) : w.cell? ⟨pb, k + 9, none⟩ = some v := by
  refine h.blk.cell ?_
  rw [show k + 9 = (k + 8) + 1 by omega, stpL_sv h.sy.len19 (by omega), hsv]
  unfold Sy.vals
  rw [List.getElem?_append_right (by have := h.sy.1; simp; omega)]
  have : (s.regs.map vi).length = 8 := by simpa using h.sy.1
  rw [this, show k + 8 - 8 = k by omega]
  exact hv
theorem Stp.cc : w.cell? ⟨pb, 9, none⟩ = some c := h.csv hsv (k := 0) (by omega) rfl
theorem Stp.ca : w.cell? ⟨pb, 16, none⟩ = some a := h.csv hsv (k := 7) (by omega) rfl
theorem Stp.cb : w.cell? ⟨pb, 17, none⟩ = some b := h.csv hsv (k := 8) (by omega) rfl
theorem Stp.cep : w.cell? ⟨pb, 18, none⟩ = some (vi s.dev.ep) := h.csv hsv (k := 9) (by omega) rfl
end
theorem load1_ret {q k : Nat} (h : Stp w F p pb N most s sv i inputs mw ov outs e) (hsv : sv = s.vals c a b d) (hB : Bnd s) (hR : RegsOk i) (hq : Blk w q [ptr pb]) (hk : k < s.cells.length) :
    Ret Try.prog 56 #[vi k, ptr q] w (fun v w' => v = .agg ⟨(s.load i k).vals c a b d⟩ ∧ Keep w w' No) := by
  obtain ⟨o1, o2, o3, o4⟩ := h.one4 hsv
  obtain ⟨x, hx⟩ : ∃ x, s.cells[k]? = some x := ⟨_, List.getElem?_eq_getElem hk⟩
  have hxD : s.cells.getD k 0 = x := by rw [List.getD_eq_getElem?_getD, hx]; rfl
  refine ok56 _ _ _ _ ?_
  unfold sh56
  refine M.new_i (l := zSy) (fun w1 b1 k1 s1 => ?_)
  have kd := Keep.drew w1 No
  have k0d := k1.trans kd (fun _ _ h => h)
  have hd := h.keepN k0d
  have hqd := hq.keep k0d (fun h => h)
  have b1d := b1.keep kd (fun h => h)
  have hqc : w1.drew.cell? ⟨q, 0, none⟩ = some (ptr pb) := hqd.cell rfl
  have hcc := hd.cc hsv
  (repeat (first|refine ja ?_|refine jb ?_|refine jc ?_|refine jd ?_|refine je ?_|refine jf ?_|refine jg ?_|refine jh ?_|refine ji ?_|refine jj ?_|refine jk ?_|refine jl ?_|refine jm ?_|refine jn ?_|refine jo ?_|refine jp ?_|refine jq ?_|refine jr ?_|refine js ?_|refine jt ?_|refine ju ?_|refine jv ?_|refine jw ?_|refine jx ?_|refine jy ?_|refine jz ?_|refine jA ?_|refine jB ?_|refine jC ?_|refine jD ?_|refine jE ?_|refine jF ?_|refine jG ?_|refine jH ?_|refine jI ?_|refine jJ ?_|refine jK ?_|refine jL ?_|refine jM (by assumption) ?_|refine jN (by assumption) rfl ?_|refine jO (by assumption) ?_|refine jP (by assumption) rfl ?_|refine jQ ?_|refine jR ?_|refine jS ?_|refine jT ?_|refine jU (by assumption) rfl ?_))
  obtain ⟨A, cc, ec, hr, _⟩ := (hd.lists hsv).1
  rw [ec]
  refine M.idxLV_i hr rfl (by omega) (by omega) (x := x) (by rw [Int.toNat_natCast]; exact hx) (fun bb oo hA hcx => ?_)
  (repeat (first|refine ja ?_|refine jb ?_|refine jc ?_|refine jd ?_|refine je ?_|refine jf ?_|refine jg ?_|refine jh ?_|refine ji ?_|refine jj ?_|refine jk ?_|refine jl ?_|refine jm ?_|refine jn ?_|refine jo ?_|refine jp ?_|refine jq ?_|refine jr ?_|refine js ?_|refine jt ?_|refine ju ?_|refine jv ?_|refine jw ?_|refine jx ?_|refine jy ?_|refine jz ?_|refine jA ?_|refine jB ?_|refine jC ?_|refine jD ?_|refine jE ?_|refine jF ?_|refine jG ?_|refine jH ?_|refine jI ?_|refine jJ ?_|refine jK ?_|refine jL ?_|refine jM (by assumption) ?_|refine jN (by assumption) rfl ?_|refine jO (by assumption) ?_|refine jP (by assumption) rfl ?_|refine jQ ?_|refine jR ?_|refine jS ?_|refine jT ?_|refine jU (by assumption) rfl ?_))
  refine M.call_i (set37_ret hd hsv hB.pc hR.1 x) ?_; rintro _ w2 ⟨rfl, k2⟩
  have hcc2 := (hd.keepN k2).cc hsv
  rw [ec] at hcc2
  have hqc2 : w2.cell? ⟨q, 0, none⟩ = some (ptr pb) := (hqd.keep k2 (fun h => h)).cell rfl
  have b2 := b1d.keep k2 (fun h => h)
  (repeat (first|refine ja ?_|refine jb ?_|refine jc ?_|refine jd ?_|refine je ?_|refine jf ?_|refine jg ?_|refine jh ?_|refine ji ?_|refine jj ?_|refine jk ?_|refine jl ?_|refine jm ?_|refine jn ?_|refine jo ?_|refine jp ?_|refine jq ?_|refine jr ?_|refine js ?_|refine jt ?_|refine ju ?_|refine jv ?_|refine jw ?_|refine jx ?_|refine jy ?_|refine jz ?_|refine jA ?_|refine jB ?_|refine jC ?_|refine jD ?_|refine jE ?_|refine jF ?_|refine jG ?_|refine jH ?_|refine jI ?_|refine jJ ?_|refine jK ?_|refine jL ?_|refine jM (by assumption) ?_|refine jN (by assumption) rfl ?_|refine jO (by assumption) ?_|refine jP (by assumption) rfl ?_|refine jQ ?_|refine jR ?_|refine jS ?_|refine jT ?_|refine jU (by assumption) rfl ?_))
  have h8' : (s.load i k).regs.length = 8 := by have := h.sy.1; simp [Sy.load, Sy.set, Sy.next, this]
  have k02 := k0d.trans k2 (fun _ _ h => h)
  have ev : s.set i x = s.load i k := by unfold Sy.load; rw [hxD]
  rw [ev]
  rw [← ec] at *
  exact fin_v b2 rfl (vals_len h8') (vals_one o1 o2 o3 o4) (fun w9 k9 => ⟨rfl, k02.trans k9 (fun x hx e => by have e : x = w.heap.size := e; omega)⟩)
theorem load_clo {q : Nat} (hsv : sv = s.vals c a b d) (hB : Bnd s) (hR : RegsOk i) : Clo (.func (.func 56) #[] #[ptr q]) p pb most s sv i inputs mw q s.cells.length (s.load i) := by
  intro k w F N ov outs e kt hk h hq hqf hkt
  refine M.callv_i (fun _ _ => rfl) (load1_ret h hsv hB hR hq hk) ?_
  rintro v w' ⟨rfl, k'⟩
  have h8 : (s.load i k).regs.length = 8 := by have := h.sy.1; simp [Sy.load, Sy.set, Sy.next, this]
  have h' := h.keepN k'
  exact hkt _ _ (SyO.of_vals h8 (h'.lists hsv)) hB.conds k'
theorem load37_ret (h : Stp w F p pb N most s sv i inputs mw ov [] e) (hsv : sv = s.vals c a b d) (hB : Bnd s) (hR : RegsOk i) :
    Ret Try.prog 33 #[ptr pb] w (Adds w F p pb most s sv i inputs mw ov (eachP most N e s (s.reg i.b) s.cells.length 257 (s.load i))) := by
  refine ok33 _ _ _ ?_
  unfold sh33
  refine M.new_i (l := [ptr pb]) (fun w1 b1 k1 s1 => ?_)
  have kd := Keep.drew w1 No
  have k0d := k1.trans kd (fun _ _ h => h)
  have hd := h.keepN k0d
  have b1d := b1.keep kd (fun h => h)
  have hqc : w1.drew.cell? ⟨w.heap.size, 0, none⟩ = some (ptr pb) := b1d.cell rfl
  have hqf : Fr F pb ov w.heap.size := h.fresh (Nat.le_refl _)
  have hcc := hd.cc hsv
  have hcB := hd.cB
  obtain ⟨A, cc, ec, hr, _⟩ := (hd.lists hsv).1
  (repeat (first|refine ja ?_|refine jb ?_|refine jc ?_|refine jd ?_|refine je ?_|refine jf ?_|refine jg ?_|refine jh ?_|refine ji ?_|refine jj ?_|refine jk ?_|refine jl ?_|refine jm ?_|refine jn ?_|refine jo ?_|refine jp ?_|refine jq ?_|refine jr ?_|refine js ?_|refine jt ?_|refine ju ?_|refine jv ?_|refine jw ?_|refine jx ?_|refine jy ?_|refine jz ?_|refine jA ?_|refine jB ?_|refine jC ?_|refine jD ?_|refine jE ?_|refine jF ?_|refine jG ?_|refine jH ?_|refine jI ?_|refine jJ ?_|refine jK ?_|refine jL ?_|refine jM (by assumption) ?_|refine jN (by assumption) rfl ?_|refine jO (by assumption) ?_|refine jP (by assumption) rfl ?_|refine jQ ?_|refine jR ?_|refine jS ?_|refine jT ?_|refine jU (by assumption) rfl ?_))
  rw [ec]
  (repeat (first|refine ja ?_|refine jb ?_|refine jc ?_|refine jd ?_|refine je ?_|refine jf ?_|refine jg ?_|refine jh ?_|refine ji ?_|refine jj ?_|refine jk ?_|refine jl ?_|refine jm ?_|refine jn ?_|refine jo ?_|refine jp ?_|refine jq ?_|refine jr ?_|refine js ?_|refine jt ?_|refine ju ?_|refine jv ?_|refine jw ?_|refine jx ?_|refine jy ?_|refine jz ?_|refine jA ?_|refine jB ?_|refine jC ?_|refine jD ?_|refine jE ?_|refine jF ?_|refine jG ?_|refine jH ?_|refine jI ?_|refine jJ ?_|refine jK ?_|refine jL ?_|refine jM (by assumption) ?_|refine jN (by assumption) rfl ?_|refine jO (by assumption) ?_|refine jP (by assumption) rfl ?_|refine jQ ?_|refine jR ?_|refine jS ?_|refine jT ?_|refine jU (by assumption) rfl ?_))
  refine M.call_i (each37_ret hd hsv b1d hqf (load_clo hsv hB hR) hR.2.1.1 hR.2.1.2 hB.cells hB.conds) ?_
  rintro _ w2 ⟨rfl, F2, ov2, h2, m2⟩
  have hcc2 := h2.cc hsv
  rw [ec] at hcc2
  have hqc2 : w2.cell? ⟨w.heap.size, 0, none⟩ = some (ptr pb) := (Blk.mv m2 b1d hqf).1.cell rfl
  (repeat (first|refine ja ?_|refine jb ?_|refine jc ?_|refine jd ?_|refine je ?_|refine jf ?_|refine jg ?_|refine jh ?_|refine ji ?_|refine jj ?_|refine jk ?_|refine jl ?_|refine jm ?_|refine jn ?_|refine jo ?_|refine jp ?_|refine jq ?_|refine jr ?_|refine js ?_|refine jt ?_|refine ju ?_|refine jv ?_|refine jw ?_|refine jx ?_|refine jy ?_|refine jz ?_|refine jA ?_|refine jB ?_|refine jC ?_|refine jD ?_|refine jE ?_|refine jF ?_|refine jG ?_|refine jH ?_|refine jI ?_|refine jJ ?_|refine jK ?_|refine jL ?_|refine jM (by assumption) ?_|refine jN (by assumption) rfl ?_|refine jO (by assumption) ?_|refine jP (by assumption) rfl ?_|refine jQ ?_|refine jR ?_|refine jS ?_|refine jT ?_|refine jU (by assumption) rfl ?_))
  exact ⟨rfl, F2, ov2, h2, (Mv.none k0d).trans m2⟩
end
end Go.Proofs.Ytanjlgafjgoaaaa
