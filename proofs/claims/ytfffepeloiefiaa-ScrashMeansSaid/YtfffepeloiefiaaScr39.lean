import Derived.Test.YtfffepeloiefiaaMasks32
import Derived.Test.YtfffepeloiefiaaMapI
namespace Go.Proofs.Ytfffepeloiefiaa
open Go.Mw
set_option linter.unusedVariables false
set_option linter.unusedSimpArgs false
set_option maxRecDepth 100000
attribute [local irreducible] M.val M.unit M.next M.pick M.new M.nilCheck M.load1 M.loadA M.store M.fieldAddr M.indexSl M.indexArr M.slice M.makeSlice M.buildSlice M.len M.lenS M.cap M.append M.extract M.conv M.not M.neg M.bin M.shift M.eqB M.eqNil M.call M.callv M.gd M.share M.cond M.loop M.draw pureW readW Ret
/-! slices.Clone[[]int,int]: function 18 -/
def sh18 (x0 : Value) (R : Kt) (w : World) : Prop :=
  M.eqNil 1 false x0 (fun t4 w =>
  M.cond t4
  (R (Value.slice none 0 0) w)
  (M.buildSlice 3 1 #[.int .i64 0] 0 [] (fun t5 w =>
  M.append 3 1 8 #[.int .i64 0] t5 x0 (fun t7 w =>
  R t7 w) w) w)) w
theorem ok18 (x0 : Value) (R : Kt) (w : World) (h : sh18 x0 R w) : Ret Try.prog 18 #[x0] w R :=
  ret_mk <| calls_of_comp mixed (c := Try.f18.body.getD .skip) (args := [x0]) (rs := [(ResultVar.tmp 2)]) (Ann.seq Ann.text (Ann.seq (Ann.seq Ann.text (Ann.cond (Ann.seq Ann.text Ann.leaf) Ann.leaf)) (Ann.seq Ann.text Ann.leaf)))
    Try.func18 (by kernel_rfl) (by kernel_rfl)
    (Eq.mp (by kernel_rfl) h)
/-! breakwater/scrash.Image: function 7 -/
def sh7 (x0 x1 : Value) (R : Kt) (w : World) : Prop :=
  M.new 25 (Value.cells x0) (fun t2 w =>
  M.fieldAddr 0 t2 (fun t8 w =>
  M.load1 t8 (fun t9 w =>
  M.call Try.prog 18 #[t9] (fun t10 w =>
  M.fieldAddr 1 t2 (fun t11 w =>
  M.load1 t11 (fun t12 w =>
  M.len t12 (fun t13 w =>
  M.loop [(Value.int IntKind.i64 0)] (fun s1 K1 w => ∀ _ : List Value,
  M.bin .lss (s1.getD 0 undef) t13 (fun t15 w =>
  M.cond t15
  (M.share (fun K2 w =>
  M.indexSl 3 t12 (s1.getD 0 undef) (fun t17 w =>
  M.loadA 3 t17 (fun t18 w =>
  M.new 55 #[.int .i64 0, .int .i64 0, .int .i64 0] (fun t7 w =>
  M.store 3 t7 t18 (fun _ w =>
  M.bin .lss (s1.getD 0 undef) (Value.int IntKind.i64 63) (fun t20 w =>
  M.gd t20 true (fun k w => k x1 w) (fun t22 w =>
  M.gd t20 true (fun k w => k (s1.getD 0 undef) w) (fun t23 w =>
  M.gd t20 true (fun k w => M.shift .shr t22 t23 k w) (fun t24 w =>
  M.gd t20 true (fun k w => M.bin .and t24 (Value.int IntKind.i64 1) k w) (fun t25 w =>
  M.gd t20 true (fun k w => M.bin .eql t25 (Value.int IntKind.i64 1) k w) (fun t26 w =>
  M.pick t20 t26 (Value.bool false) (fun t27 w =>
  M.gd t27 true (fun k w => M.fieldAddr 0 t7 k w) (fun t29 w =>
  M.gd t27 true (fun k w => M.load1 t29 k w) (fun t30 w =>
  M.gd t27 true (fun k w => M.bin .geq t30 (Value.int IntKind.i64 0) k w) (fun t31 w =>
  M.pick t27 t31 (Value.bool false) (fun t32 w =>
  M.gd t32 true (fun k w => M.fieldAddr 0 t7 k w) (fun t34 w =>
  M.gd t32 true (fun k w => M.load1 t34 k w) (fun t35 w =>
  M.gd t32 true (fun k w => k t10 w) (fun t36 w =>
  M.gd t32 true (fun k w => M.len t36 k w) (fun t37 w =>
  M.gd t32 true (fun k w => M.bin .lss t35 t37 k w) (fun t38 w =>
  M.pick t32 t38 (Value.bool false) (fun t39 w =>
  M.cond t39
  (M.fieldAddr 0 t7 (fun t41 w =>
  M.load1 t41 (fun t42 w =>
  M.fieldAddr 1 t7 (fun t43 w =>
  M.load1 t43 (fun t44 w =>
  M.indexSl 1 t10 t42 (fun t45 w =>
  M.store 1 t45 t44 (fun _ w =>
  K2 [] w) w) w) w) w) w) w)
  (K2 [] w)) w) w) w) w) w) w) w) w) w) w) w) w) w) w) w) w) w) w) w) w) w) (fun s2 w => ∀ _ : List Value,
  M.bin .add (s1.getD 0 undef) (Value.int IntKind.i64 1) (fun t46 w =>
  K1 [t46] w) w) w)
  (R t10 w)) w) w) w) w) w) w) w) w) w
theorem ok7 (x0 x1 : Value) (R : Kt) (w : World) (h : sh7 x0 x1 R w) : Ret Try.prog 7 #[x0, x1] w R :=
  ret_mk <| calls_of_comp mixed (c := Try.f7.body.getD .skip) (args := [x0, x1]) (rs := [(ResultVar.tmp 4)]) (Ann.seq Ann.text (Ann.seq Ann.text (Ann.seq (Ann.seq Ann.text (Ann.block (Ann.loop [14] [6, 7, 15, 16, 17, 18, 19, 20, 21, 22, 23, 24, 25, 26, 27, 28, 29, 30, 31, 32, 33, 34, 35, 36, 37, 38, 39, 40, 41, 42, 43, 44, 45, 46] (Ann.seq Ann.text (Ann.seq (Ann.cond Ann.leaf Ann.leaf) (Ann.seq (Ann.jblock [] [6, 7, 16, 17, 18, 19, 20, 21, 22, 23, 24, 25, 26, 27, 28, 29, 30, 31, 32, 33, 34, 35, 36, 37, 38, 39, 40, 41, 42, 43, 44, 45] (Ann.seq Ann.text (Ann.seq Ann.text (Ann.cond Ann.text Ann.leaf)))) Ann.text)))))) (Ann.seq Ann.text Ann.leaf))))
    Try.func7 (by kernel_rfl) (by kernel_rfl)
    (Eq.mp (by kernel_rfl) h)
/-! breakwater/scrash.Fresh: function 8 -/
def sh8 (x0 : Value) (R : Kt) (w : World) : Prop :=
  M.new 25 #[.slice none 0 0, .slice none 0 0, .int .i64 0] (fun t2 w =>
  M.call Try.prog 18 #[x0] (fun t4 w =>
  pureW Try.prog (Instr.build 25 #[(0, t4)]) (fun t5 w =>
  M.store 3 t2 t5 (fun _ w =>
  M.loadA 3 t2 (fun r0 w => R r0 w) w) w) w) w) w
theorem ok8 (x0 : Value) (R : Kt) (w : World) (h : sh8 x0 R w) : Ret Try.prog 8 #[x0] w R :=
  ret_mk <| calls_of_comp mixed (c := Try.f8.body.getD .skip) (args := [x0]) (rs := [(ResultVar.cell 2 25)]) (Ann.seq Ann.text (Ann.seq Ann.text Ann.leaf))
    Try.func8 (by kernel_rfl) (by kernel_rfl)
    (Eq.mp (by kernel_rfl) h)
/-! breakwater/scrash.Masks: function 10 -/
def sh10 (x0 : Value) (R : Kt) (w : World) : Prop :=
  M.new 25 (Value.cells x0) (fun t1 w =>
  M.fieldAddr 1 t1 (fun t9 w =>
  M.load1 t9 (fun t10 w =>
  M.len t10 (fun t11 w =>
  M.bin .gtr t11 (Value.int IntKind.i64 12) (fun t12 w =>
  M.cond t12
  (R (Value.slice none 0 0) w)
  (M.new 57 #[.int .i64 0, .int .i64 0, .int .i64 0, .int .i64 0, .int .i64 0, .int .i64 0, .int .i64 0, .int .i64 0, .int .i64 0, .int .i64 0, .int .i64 0, .int .i64 0] (fun t3 w =>
  M.fieldAddr 1 t1 (fun t13 w =>
  M.load1 t13 (fun t14 w =>
  M.len t14 (fun t15 w =>
  M.loop [(Value.int IntKind.i64 0)] (fun s1 K1 w => ∀ _ : List Value,
  M.bin .lss (s1.getD 0 undef) t15 (fun t17 w =>
  M.cond t17
  (M.indexSl 3 t14 (s1.getD 0 undef) (fun t19 w =>
  M.loadA 3 t19 (fun t20 w =>
  M.new 55 #[.int .i64 0, .int .i64 0, .int .i64 0] (fun t5 w =>
  M.store 3 t5 t20 (fun _ w =>
  M.fieldAddr 2 t5 (fun t22 w =>
  M.load1 t22 (fun t23 w =>
  M.indexArr 12 1 t3 (s1.getD 0 undef) (fun t24 w =>
  M.store 1 t24 t23 (fun _ w =>
  M.bin .add (s1.getD 0 undef) (Value.int IntKind.i64 1) (fun t25 w =>
  K1 [t25] w) w) w) w) w) w) w) w) w) w)
  (M.new 37 #[.slice none 0 0, .slice none 0 0, .int .i64 0] (fun t6 w =>
  M.fieldAddr 1 t1 (fun t26 w =>
  M.load1 t26 (fun t27 w =>
  M.len t27 (fun t28 w =>
  M.val Try.prog (Instr.sliceAt 57 t3 none (some t28) none) (fun t29 w =>
  M.len t29 (fun t30 w =>
  M.loop [(Value.int IntKind.i64 0)] (fun s2 K2 w => ∀ _ : List Value,
  M.bin .lss (s2.getD 0 undef) t30 (fun t32 w =>
  M.cond t32
  (M.indexSl 1 t29 (s2.getD 0 undef) (fun t33 w =>
  M.load1 t33 (fun t34 w =>
  M.fieldAddr 1 t6 (fun t35 w =>
  M.load1 t35 (fun t36 w =>
  pureW Try.prog (Instr.build 59 #[(2, t34)]) (fun t38 w =>
  M.buildSlice 59 3 #[.int .i64 0, .int .u64 0, .int .i64 0] 1 [(0, t38)] (fun t39 w =>
  M.append 59 3 24 #[.int .i64 0, .int .u64 0, .int .i64 0] t36 t39 (fun t40 w =>
  M.fieldAddr 1 t6 (fun t41 w =>
  M.store 1 t41 t40 (fun _ w =>
  M.bin .add (s2.getD 0 undef) (Value.int IntKind.i64 1) (fun t42 w =>
  K2 [t42] w) w) w) w) w) w) w) w) w) w) w)
  (M.loadA 3 t6 (fun t43 w =>
  M.call Try.prog 19 #[t43] (fun t44 w =>
  R t44 w) w) w)) w) w) w) w) w) w) w) w)) w) w) w) w) w) w)) w) w) w) w) w
theorem ok10 (x0 : Value) (R : Kt) (w : World) (h : sh10 x0 R w) : Ret Try.prog 10 #[x0] w R :=
  ret_mk <| calls_of_comp mixed (c := Try.f10.body.getD .skip) (args := [x0]) (rs := [(ResultVar.tmp 2)]) (Ann.seq Ann.text (Ann.seq (Ann.seq Ann.text (Ann.cond (Ann.seq Ann.text Ann.leaf) Ann.leaf)) (Ann.seq Ann.text (Ann.seq (Ann.seq Ann.text (Ann.block (Ann.loop [16] [4, 5, 17, 18, 19, 20, 21, 22, 23, 24, 25] (Ann.seq Ann.text (Ann.seq (Ann.cond Ann.leaf Ann.leaf) (Ann.seq (Ann.block (Ann.seq Ann.text Ann.text)) Ann.text)))))) (Ann.seq Ann.text (Ann.seq (Ann.seq Ann.text (Ann.block (Ann.loop [31] [8, 32, 33, 34, 35, 36, 37, 38, 39, 40, 41, 42] (Ann.seq Ann.text (Ann.seq (Ann.cond Ann.leaf Ann.leaf) (Ann.seq (Ann.block (Ann.seq Ann.text Ann.text)) Ann.text)))))) (Ann.seq Ann.text Ann.leaf)))))))
    Try.func10 (by kernel_rfl) (by kernel_rfl)
    (Eq.mp (by kernel_rfl) h)
/-! breakwater/breakwaterlaw39.few: function 5 -/
def sh5 (x0 : Value) (R : Kt) (w : World) : Prop :=
  M.new 25 (Value.cells x0) (fun t1 w =>
  M.fieldAddr 0 t1 (fun t3 w =>
  M.load1 t3 (fun t4 w =>
  M.len t4 (fun t5 w =>
  M.bin .leq t5 (Value.int IntKind.i64 60) (fun t6 w =>
  M.gd t6 true (fun k w => M.fieldAddr 1 t1 k w) (fun t8 w =>
  M.gd t6 true (fun k w => M.load1 t8 k w) (fun t9 w =>
  M.gd t6 true (fun k w => M.len t9 k w) (fun t10 w =>
  M.gd t6 true (fun k w => M.bin .leq t10 (Value.int IntKind.i64 40) k w) (fun t11 w =>
  M.pick t6 t11 (Value.bool false) (fun t12 w =>
  M.gd t12 true (fun k w => M.fieldAddr 1 t1 k w) (fun t14 w =>
  M.gd t12 true (fun k w => M.load1 t14 k w) (fun t15 w =>
  M.gd t12 true (fun k w => M.len t15 k w) (fun t16 w =>
  M.gd t12 true (fun k w => M.bin .leq t16 (Value.int IntKind.i64 9) k w) (fun t17 w =>
  M.gd t12 true (fun k w => k t17 w) (fun t18 w =>
  M.gd t18 false (fun k w => M.fieldAddr 1 t1 k w) (fun t19 w =>
  M.gd t18 false (fun k w => M.load1 t19 k w) (fun t20 w =>
  M.gd t18 false (fun k w => M.len t20 k w) (fun t21 w =>
  M.gd t18 false (fun k w => M.bin .gtr t21 (Value.int IntKind.i64 12) k w) (fun t22 w =>
  M.gd t12 true (fun k w => M.pick t18 (Value.bool true) t22 k w) (fun t23 w =>
  M.pick t12 t23 (Value.bool false) (fun t24 w =>
  R t24 w) w) w) w) w) w) w) w) w) w) w) w) w) w) w) w) w) w) w) w) w) w
theorem ok5 (x0 : Value) (R : Kt) (w : World) (h : sh5 x0 R w) : Ret Try.prog 5 #[x0] w R :=
  ret_mk <| calls_of_comp mixed (c := Try.f5.body.getD .skip) (args := [x0]) (rs := [(ResultVar.tmp 2)]) (Ann.seq Ann.text (Ann.seq Ann.text Ann.leaf))
    Try.func5 (by kernel_rfl) (by kernel_rfl)
    (Eq.mp (by kernel_rfl) h)
/-! breakwater/breakwaterlaw39.plain: function 12 -/
def sh12 (x0 : Value) (R : Kt) (w : World) : Prop :=
  M.new 25 (Value.cells x0) (fun t1 w =>
  M.new 37 #[.slice none 0 0, .slice none 0 0, .int .i64 0] (fun t2 w =>
  M.fieldAddr 2 t1 (fun t6 w =>
  M.load1 t6 (fun t7 w =>
  pureW Try.prog (Instr.build 37 #[(2, t7)]) (fun t8 w =>
  M.new 37 #[.slice none 0 0, .slice none 0 0, .int .i64 0] (fun t3 w =>
  M.store 3 t3 t8 (fun _ w =>
  M.loop [(Value.int IntKind.i64 0)] (fun s1 K1 w => ∀ _ : List Value,
  M.fieldAddr 0 t1 (fun t10 w =>
  M.load1 t10 (fun t11 w =>
  M.len t11 (fun t12 w =>
  M.bin .lss (s1.getD 0 undef) t12 (fun t13 w =>
  M.cond t13
  (M.draw (fun w =>
  M.fieldAddr 0 t3 (fun t16 w =>
  M.load1 t16 (fun t17 w =>
  M.fieldAddr 0 t1 (fun t18 w =>
  M.load1 t18 (fun t19 w =>
  M.indexSl 1 t19 (s1.getD 0 undef) (fun t21 w =>
  M.load1 t21 (fun t22 w =>
  M.conv .u64 t22 (fun t23 w =>
  M.buildSlice 30 1 #[.int .u64 0] 1 [(0, t23)] (fun t24 w =>
  ((M.load1 t21 (fun v' _ => v' = t22) w) ∧ ((M.load1 t18 (fun v' _ => v' = t19) w) ∧ ((M.load1 t16 (fun v' _ => v' = t17) w) ∧ M.append 30 1 8 #[.int .u64 0] t17 t24 (fun t25 w =>
  ((M.load1 t21 (fun v' _ => v' = t22) w) ∧ ((M.load1 t18 (fun v' _ => v' = t19) w) ∧ M.fieldAddr 0 t3 (fun t26 w =>
  M.store 1 t26 t25 (fun _ w =>
  M.bin .add (s1.getD 0 undef) (Value.int IntKind.i64 1) (fun t15 w =>
  K1 [t15] w) w) w) w))) w)))) w) w) w) w) w) w) w) w) w)
  (M.loop [(Value.int IntKind.i64 0)] (fun s2 K2 w => ∀ _ : List Value,
  M.fieldAddr 1 t1 (fun t28 w =>
  M.load1 t28 (fun t29 w =>
  M.len t29 (fun t30 w =>
  M.bin .lss (s2.getD 0 undef) t30 (fun t31 w =>
  M.cond t31
  (M.draw (fun w =>
  M.fieldAddr 1 t3 (fun t34 w =>
  M.load1 t34 (fun t35 w =>
  M.fieldAddr 1 t1 (fun t36 w =>
  M.load1 t36 (fun t37 w =>
  M.indexSl 3 t37 (s2.getD 0 undef) (fun t39 w =>
  M.fieldAddr 0 t39 (fun t40 w =>
  M.load1 t40 (fun t41 w =>
  M.fieldAddr 1 t1 (fun t42 w =>
  M.load1 t42 (fun t43 w =>
  M.indexSl 3 t43 (s2.getD 0 undef) (fun t45 w =>
  M.fieldAddr 1 t45 (fun t46 w =>
  M.load1 t46 (fun t47 w =>
  M.conv .u64 t47 (fun t48 w =>
  M.fieldAddr 1 t1 (fun t49 w =>
  M.load1 t49 (fun t50 w =>
  M.indexSl 3 t50 (s2.getD 0 undef) (fun t52 w =>
  M.fieldAddr 2 t52 (fun t53 w =>
  M.load1 t53 (fun t54 w =>
  pureW Try.prog (Instr.build 59 #[(0, t41), (1, t48), (2, t54)]) (fun t55 w =>
  M.buildSlice 59 3 #[.int .i64 0, .int .u64 0, .int .i64 0] 1 [(0, t55)] (fun t56 w =>
  ((M.load1 t53 (fun v' _ => v' = t54) w) ∧ ((M.load1 t49 (fun v' _ => v' = t50) w) ∧ ((M.load1 t46 (fun v' _ => v' = t47) w) ∧ ((M.load1 t42 (fun v' _ => v' = t43) w) ∧ ((M.load1 t40 (fun v' _ => v' = t41) w) ∧ ((M.load1 t36 (fun v' _ => v' = t37) w) ∧ ((M.load1 t34 (fun v' _ => v' = t35) w) ∧ M.append 59 3 24 #[.int .i64 0, .int .u64 0, .int .i64 0] t35 t56 (fun t57 w =>
  ((M.load1 t53 (fun v' _ => v' = t54) w) ∧ ((M.load1 t49 (fun v' _ => v' = t50) w) ∧ ((M.load1 t46 (fun v' _ => v' = t47) w) ∧ ((M.load1 t42 (fun v' _ => v' = t43) w) ∧ ((M.load1 t40 (fun v' _ => v' = t41) w) ∧ ((M.load1 t36 (fun v' _ => v' = t37) w) ∧ M.fieldAddr 1 t3 (fun t58 w =>
  M.store 1 t58 t57 (fun _ w =>
  M.bin .add (s2.getD 0 undef) (Value.int IntKind.i64 1) (fun t33 w =>
  K2 [t33] w) w) w) w))))))) w)))))))) w) w) w) w) w) w) w) w) w) w) w) w) w) w) w) w) w) w) w) w) w)
  (M.loadA 3 t3 (fun t59 w =>
  M.store 3 t2 t59 (fun _ w =>
  M.loadA 3 t2 (fun r0 w => R r0 w) w) w) w)) w) w) w) w) w)) w) w) w) w) w) w) w) w) w) w) w) w
theorem ok12 (x0 : Value) (R : Kt) (w : World) (h : sh12 x0 R w) : Ret Try.prog 12 #[x0] w R :=
  ret_mk <| calls_of_comp mixed (c := Try.f12.body.getD .skip) (args := [x0]) (rs := [(ResultVar.cell 2 37)]) (Ann.seq Ann.text (Ann.seq Ann.text (Ann.seq (Ann.seq Ann.text (Ann.block (Ann.loop [4] [9, 10, 11, 12, 13, 14, 15, 16, 17, 18, 19, 20, 21, 22, 23, 24, 25, 26] (Ann.seq (Ann.seq Ann.text (Ann.cond Ann.leaf Ann.leaf)) (Ann.seq (Ann.block (Ann.draw (Sch.take 0 (Sch.take 1 (Sch.take 2 (Sch.take 3 (Sch.take 4 (Sch.take 5 (Sch.take 6 (Sch.take 7 (Sch.one 8 (Sch.one 9 (Sch.take 10 (Sch.one 11 Sch.done)))))))))))))) Ann.text))))) (Ann.seq (Ann.seq Ann.text (Ann.block (Ann.loop [5] [27, 28, 29, 30, 31, 32, 33, 34, 35, 36, 37, 38, 39, 40, 41, 42, 43, 44, 45, 46, 47, 48, 49, 50, 51, 52, 53, 54, 55, 56, 57, 58] (Ann.seq (Ann.seq Ann.text (Ann.cond Ann.leaf Ann.leaf)) (Ann.seq (Ann.block (Ann.draw (Sch.take 0 (Sch.take 1 (Sch.take 2 (Sch.take 3 (Sch.take 4 (Sch.take 5 (Sch.take 6 (Sch.take 7 (Sch.take 8 (Sch.take 9 (Sch.take 10 (Sch.take 11 (Sch.take 12 (Sch.take 13 (Sch.take 14 (Sch.take 15 (Sch.take 16 (Sch.take 17 (Sch.take 18 (Sch.take 19 (Sch.take 20 (Sch.take 21 (Sch.one 22 (Sch.one 23 (Sch.take 24 (Sch.one 25 Sch.done)))))))))))))))))))))))))))) Ann.text))))) (Ann.seq Ann.text Ann.leaf)))))
    Try.func12 (by kernel_rfl) (by kernel_rfl)
    (Eq.mp (by kernel_rfl) h)

abbrev ptrA (p : Nat) : Value := .pointer (some ⟨p, 0, none⟩)
def spairs (l : List SP) : List (Int × Int) := l.map (fun p => (p.b, p.v))
def epsS (l : List SP) : List Int := l.map SP.e
theorem sp_one (x : SP) : ∀ y ∈ x.cells, y.oneCell' = true := by
  intro y hy
  simp only [SP.cells, List.mem_cons, List.not_mem_nil, or_false] at hy
  rcases hy with rfl | rfl | rfl <;> rfl
theorem M.loadSP_i {k : Kt} {w : World} {b o : Nat} {x : SP} (hc : ∀ (j : Nat) v, x.cells[j]? = some v → w.cell? ⟨b, o + j, none⟩ = some v) (h : k (.agg ⟨x.cells⟩) w) : M.loadA 3 (.pointer (some ⟨b, o, none⟩)) k w := by
  have := rdL_cells (w := w) (b := b) (o := o) (cs := x.cells) 3 0 (fun j hj => hc j _ (List.getElem?_eq_getElem hj)) rfl
  unfold M.loadA
  simp only [this]
  exact h
theorem M.idxSP_i {k : Kt} {w : World} {D : Nat → Prop} {A : Option Addr} {l : List SP} {c i : Nat} {x : SP} (hr : Row w D A (l.flatMap SP.cells)) (hx : l[i]? = some x)
    (h : ∀ b o, (∀ (j : Nat) v, x.cells[j]? = some v → w.cell? ⟨b, o + j, none⟩ = some v) → k (.pointer (some ⟨b, o, none⟩)) w) : M.indexSl 3 (.slice A l.length c) (vi i) k w :=
  M.idxF_i sp_len (by omega) hr rfl (by omega) (by rw [Int.toNat_natCast]; exact hx) h
theorem M.arrA_i {k : Kt} {w : World} {len : Nat} {d : IntKind} {i : Int} {b o : Nat} (h0 : 0 ≤ i) (h1 : i < len) (h : k (.pointer (some ⟨b, o + i.toNat * 1, none⟩)) w) : M.indexArr len 1 (.pointer (some ⟨b, o, none⟩)) (.int d i) k w := by
  unfold M.indexArr; simp only [add_mk]; exact ⟨⟨h0, h1⟩, h⟩
theorem M.and1T_i {k : Kt} {w : World} {m : Int} {i : Nat} (h : k (vi (if bitZ m i then 1 else 0)) w) : M.bin .and (vi (m.fdiv (2 ^ (min i 64)))) (vi 1) k w := by
  refine M.and1_i ?_
  have e : (m.fdiv (2 ^ (min i 64))) % 2 = if bitZ m i then 1 else 0 := by
    unfold bitZ
    by_cases hc : (m.fdiv (2 ^ (min i 64))) % 2 = 1
    · simp [hc]
    · simp [hc]; omega
  rw [e]; exact h
section
variable {w : World} {D : Nat → Prop}
theorem clone_ret {v : Value} {xs : List Int} (h : LV vi w D v xs) (hf : xs.length ≤ 1000000) : Ret Try.prog 18 #[v] w (fun r w' => GI w' (w.heap.size ≤ ·) r xs ∧ Keep w w' No) := by
  obtain ⟨A, c, rfl, hr, hc⟩ := h
  refine ok18 _ _ _ ?_
  unfold sh18
  cases A with
  | none =>
    have hx : xs = [] := by
      rcases hr with h | ⟨_, _, _, _, _, h, _⟩
      · simpa using h
      · cases h
    subst hx
    (repeat (first|refine ja ?_|refine jb ?_|refine jc ?_|refine jd ?_|refine je ?_|refine jf ?_|refine jg ?_|refine jh ?_|refine ji ?_|refine jj ?_|refine jk ?_|refine jl ?_|refine jm ?_|refine jn ?_|refine jo ?_|refine jp ?_|refine jq ?_|refine jr ?_|refine js ?_|refine jt ?_|refine ju ?_|refine jv ?_|refine jw ?_|refine jx ?_|refine jy ?_|refine jz ?_|refine jA ?_|refine jB ?_|refine jC ?_|refine jD ?_|refine jE ?_|refine jF ?_|refine jG ?_|refine jH ?_|refine jI ?_|refine jJ ?_|refine jK ?_|refine jL ?_|refine jM (by assumption) ?_|refine jN (by assumption) rfl ?_|refine jO (by assumption) ?_|refine jP (by assumption) rfl ?_|refine jQ ?_|refine jR ?_|refine jS ?_|refine jT ?_|refine jU (by assumption) rfl ?_))
    exact ⟨GI.nil _ _, Keep.refl _ _⟩
  | some ad =>
    (repeat (first|refine ja ?_|refine jb ?_|refine jc ?_|refine jd ?_|refine je ?_|refine jf ?_|refine jg ?_|refine jh ?_|refine ji ?_|refine jj ?_|refine jk ?_|refine jl ?_|refine jm ?_|refine jn ?_|refine jo ?_|refine jp ?_|refine jq ?_|refine jr ?_|refine js ?_|refine jt ?_|refine ju ?_|refine jv ?_|refine jw ?_|refine jx ?_|refine jy ?_|refine jz ?_|refine jA ?_|refine jB ?_|refine jC ?_|refine jD ?_|refine jE ?_|refine jF ?_|refine jG ?_|refine jH ?_|refine jI ?_|refine jJ ?_|refine jK ?_|refine jL ?_|refine jM (by assumption) ?_|refine jN (by assumption) rfl ?_|refine jO (by assumption) ?_|refine jP (by assumption) rfl ?_|refine jQ ?_|refine jR ?_|refine jS ?_|refine jT ?_|refine jU (by assumption) rfl ?_))
    refine M.buildSlice_i [] (by kernel_rfl) (fun w1 b1 k1 s1 => ?_)
    have g1 : GI w1 (w.heap.size ≤ ·) (.slice (some ⟨w.heap.size, 0, none⟩) 0 0) [] := GC.of_blk b1 (Nat.le_refl _) rfl
    refine M.appendI_i rfl g1 (hr.keep k1 (fun _ _ _ h => h)) rfl (by simp; omega) (fun v2 w2 g2 k2 => ?_)
    have q1 := k1.size
    exact ⟨g2.mono (fun b hb h => by
      rcases h with h | h
      · exact h
      · show w.heap.size ≤ b; omega), k1.trans k2 (fun b hb h => by have h : w.heap.size ≤ b := h; omega)⟩
theorem simage_ret {a b : Value} {d : SDv} (h : SDvO w D a b d) (hf : d.few) (m : Int) :
    Ret Try.prog 7 #[.agg ⟨[a, b, vi d.ep]⟩, vi m] w (fun r w' => GI w' (w.heap.size ≤ ·) r (imgL d.disk (spairs d.pend) m) ∧ Keep w w' No) := by
  have h := h.mono (D' := (· < w.heap.size)) (fun b hb _ => hb)
  have hp1 : d.disk.length ≤ 1000000 := hf.1
  have hp2 : d.pend.length ≤ 1000000 := hf.2
  obtain ⟨h1, A, c, rfl, hr, hc⟩ := h
  have h1' := h1
  obtain ⟨B, cb, rfl, _, _⟩ := h1
  refine ok7 _ _ _ _ ?_
  unfold sh7
  refine M.new_i (l := [.slice B d.disk.length cb, .slice A d.pend.length c, vi d.ep]) (fun w1 b1 k1 s1 => ?_)
  (repeat (first|refine ja ?_|refine jb ?_|refine jc ?_|refine jd ?_|refine je ?_|refine jf ?_|refine jg ?_|refine jh ?_|refine ji ?_|refine jj ?_|refine jk ?_|refine jl ?_|refine jm ?_|refine jn ?_|refine jo ?_|refine jp ?_|refine jq ?_|refine jr ?_|refine js ?_|refine jt ?_|refine ju ?_|refine jv ?_|refine jw ?_|refine jx ?_|refine jy ?_|refine jz ?_|refine jA ?_|refine jB ?_|refine jC ?_|refine jD ?_|refine jE ?_|refine jF ?_|refine jG ?_|refine jH ?_|refine jI ?_|refine jJ ?_|refine jK ?_|refine jL ?_|refine jM (by assumption) ?_|refine jN (by assumption) rfl ?_|refine jO (by assumption) ?_|refine jP (by assumption) rfl ?_|refine jQ ?_|refine jR ?_|refine jS ?_|refine jT ?_|refine jU (by assumption) rfl ?_))
  refine M.call_i (clone_ret (h1'.keep k1 (fun _ _ _ h => h)) hf.1) ?_; rintro ov w2 ⟨g2, k2⟩
  have b2 := b1.keep k2 (fun h => h)
  have k02 := k1.trans k2 (fun _ _ h => h)
  have q1 := k1.size; have q2 := k2.size
  (repeat (first|refine ja ?_|refine jb ?_|refine jc ?_|refine jd ?_|refine je ?_|refine jf ?_|refine jg ?_|refine jh ?_|refine ji ?_|refine jj ?_|refine jk ?_|refine jl ?_|refine jm ?_|refine jn ?_|refine jo ?_|refine jp ?_|refine jq ?_|refine jr ?_|refine js ?_|refine jt ?_|refine ju ?_|refine jv ?_|refine jw ?_|refine jx ?_|refine jy ?_|refine jz ?_|refine jA ?_|refine jB ?_|refine jC ?_|refine jD ?_|refine jE ?_|refine jF ?_|refine jG ?_|refine jH ?_|refine jI ?_|refine jJ ?_|refine jK ?_|refine jL ?_|refine jM (by assumption) ?_|refine jN (by assumption) rfl ?_|refine jO (by assumption) ?_|refine jP (by assumption) rfl ?_|refine jQ ?_|refine jR ?_|refine jS ?_|refine jT ?_|refine jU (by assumption) rfl ?_))
  refine M.loop_i (σ := Nat) (fun i vals w' => vals = [vi i] ∧ i ≤ d.pend.length ∧ GI w' (w1.heap.size ≤ ·) ov (imgN d.disk (spairs d.pend) m i) ∧ Keep w2 w' (w1.heap.size ≤ ·)) (fun i => d.pend.length - i) 0 ⟨rfl, by omega, g2, Keep.refl _ _⟩ ?_
  rintro i vals w3 K ⟨rfl, hi, g3, k3⟩ hK _
  simp only [List.getD_cons_zero, List.getD_cons_succ]
  have hil := imgN_len d.disk (spairs d.pend) m i
  have k03 : Keep w w3 No := k02.trans k3 (fun b hb h => by have h : w1.heap.size ≤ b := h; omega)
  by_cases hlt : i < d.pend.length
  · obtain ⟨x, hx⟩ : ∃ x, d.pend[i]? = some x := ⟨_, List.getElem?_eq_getElem hlt⟩
    have hxs : (spairs d.pend)[i]? = some (x.b, x.v) := by unfold spairs; rw [List.getElem?_map, hx]; rfl
    have es : imgN d.disk (spairs d.pend) m (i + 1) = if decide (i < 63) && bitZ m i && decide (0 ≤ x.b ∧ x.b < (d.disk.length : Int)) then (imgN d.disk (spairs d.pend) m i).set x.b.toNat x.v else imgN d.disk (spairs d.pend) m i := by
      rw [imgN, hxs]
    have hr3 := hr.keep k03 (fun _ _ _ h => h)
    (repeat (first|refine ja ?_|refine jb ?_|refine jc ?_|refine jd ?_|refine je ?_|refine jf ?_|refine jg ?_|refine jh ?_|refine ji ?_|refine jj ?_|refine jk ?_|refine jl ?_|refine jm ?_|refine jn ?_|refine jo ?_|refine jp ?_|refine jq ?_|refine jr ?_|refine js ?_|refine jt ?_|refine ju ?_|refine jv ?_|refine jw ?_|refine jx ?_|refine jy ?_|refine jz ?_|refine jA ?_|refine jB ?_|refine jC ?_|refine jD ?_|refine jE ?_|refine jF ?_|refine jG ?_|refine jH ?_|refine jI ?_|refine jJ ?_|refine jK ?_|refine jL ?_|refine jM (by assumption) ?_|refine jN (by assumption) rfl ?_|refine jO (by assumption) ?_|refine jP (by assumption) rfl ?_|refine jQ ?_|refine jR ?_|refine jS ?_|refine jT ?_|refine jU (by assumption) rfl ?_))
    refine M.share_j (fun vals w' => GI w' (w1.heap.size ≤ ·) ov (imgN d.disk (spairs d.pend) m (i + 1)) ∧ Keep w2 w' (w1.heap.size ≤ ·)) ?_ ?_
    · rintro vals w4 ⟨a1, a2⟩ _
      (repeat (first|refine ja ?_|refine jb ?_|refine jc ?_|refine jd ?_|refine je ?_|refine jf ?_|refine jg ?_|refine jh ?_|refine ji ?_|refine jj ?_|refine jk ?_|refine jl ?_|refine jm ?_|refine jn ?_|refine jo ?_|refine jp ?_|refine jq ?_|refine jr ?_|refine js ?_|refine jt ?_|refine ju ?_|refine jv ?_|refine jw ?_|refine jx ?_|refine jy ?_|refine jz ?_|refine jA ?_|refine jB ?_|refine jC ?_|refine jD ?_|refine jE ?_|refine jF ?_|refine jG ?_|refine jH ?_|refine jI ?_|refine jJ ?_|refine jK ?_|refine jL ?_|refine jM (by assumption) ?_|refine jN (by assumption) rfl ?_|refine jO (by assumption) ?_|refine jP (by assumption) rfl ?_|refine jQ ?_|refine jR ?_|refine jS ?_|refine jT ?_|refine jU (by assumption) rfl ?_))
      exact hK (i + 1) _ _ (by omega) ⟨rfl, by omega, a1, a2⟩
    · intro K2 hK2
      refine M.idxSP_i hr3 hx (fun b3 o3 hc3 => ?_)
      refine M.loadSP_i hc3 ?_
      refine M.new_i (l := [vi 0, vi 0, vi 0]) (fun w4 b4 k4 s4 => ?_)
      refine M.storeAll_i b4 rfl rfl (sp_one x) (fun w5 b5 k5 s5 => ?_)
      have b5 : Blk w5 w3.heap.size [vi x.b, vi x.v, vi x.e] := b5
      have k35 : Keep w3 w5 No := k4.trans k5 (fun b hb h => by omega)
      have g5 := g3.keep k35 (fun _ _ _ h => h)
      have k25 := k3.trans k35 (fun _ _ h => h.elim)
      have no : (decide (i < 63) && bitZ m i && decide (0 ≤ x.b ∧ x.b < (d.disk.length : Int))) = false → K2 [] w5 := fun hh => by
        rw [hh] at es
        simp only [Bool.false_eq_true, if_false] at es
        exact hK2 _ _ ⟨by rw [es]; exact g5, k25⟩
      obtain ⟨A1, c1, rfl, _, _⟩ := GC.row2 g5 (by omega)
      by_cases h63 : i < 63
      rotate_left
      · (repeat (first|refine ja ?_|refine jb ?_|refine jc ?_|refine jd ?_|refine je ?_|refine jf ?_|refine jg ?_|refine jh ?_|refine ji ?_|refine jj ?_|refine jk ?_|refine jl ?_|refine jm ?_|refine jn ?_|refine jo ?_|refine jp ?_|refine jq ?_|refine jr ?_|refine js ?_|refine jt ?_|refine ju ?_|refine jv ?_|refine jw ?_|refine jx ?_|refine jy ?_|refine jz ?_|refine jA ?_|refine jB ?_|refine jC ?_|refine jD ?_|refine jE ?_|refine jF ?_|refine jG ?_|refine jH ?_|refine jI ?_|refine jJ ?_|refine jK ?_|refine jL ?_|refine jM (by assumption) ?_|refine jN (by assumption) rfl ?_|refine jO (by assumption) ?_|refine jP (by assumption) rfl ?_|refine jQ ?_|refine jR ?_|refine jS ?_|refine jT ?_|refine jU (by assumption) rfl ?_|refine jG ?_ (by decide)|refine jH ?_ (by decide)|refine jI ?_ (by decide)|refine jJ ?_ (by decide)|refine jC ?_ (by decide)|refine jy ?_ (by decide)))
        exact no (by simp [h63])
      (repeat (first|refine ja ?_|refine jb ?_|refine jc ?_|refine jd ?_|refine je ?_|refine jf ?_|refine jg ?_|refine jh ?_|refine ji ?_|refine jj ?_|refine jk ?_|refine jl ?_|refine jm ?_|refine jn ?_|refine jo ?_|refine jp ?_|refine jq ?_|refine jr ?_|refine js ?_|refine jt ?_|refine ju ?_|refine jv ?_|refine jw ?_|refine jx ?_|refine jy ?_|refine jz ?_|refine jA ?_|refine jB ?_|refine jC ?_|refine jD ?_|refine jE ?_|refine jF ?_|refine jG ?_|refine jH ?_|refine jI ?_|refine jJ ?_|refine jK ?_|refine jL ?_|refine jM (by assumption) ?_|refine jN (by assumption) rfl ?_|refine jO (by assumption) ?_|refine jP (by assumption) rfl ?_|refine jQ ?_|refine jR ?_|refine jS ?_|refine jT ?_|refine jU (by assumption) rfl ?_|refine jG ?_ (by decide)|refine jH ?_ (by decide)|refine jI ?_ (by decide)|refine jJ ?_ (by decide)|refine jC ?_ (by decide)|refine jy ?_ (by decide)))
      refine M.shr_i ?_
      refine M.gd_tt ?_
      refine M.and1T_i ?_
      cases hb : bitZ m i with
      | false =>
        simp only [Bool.false_eq_true, if_false]
        (repeat (first|refine ja ?_|refine jb ?_|refine jc ?_|refine jd ?_|refine je ?_|refine jf ?_|refine jg ?_|refine jh ?_|refine ji ?_|refine jj ?_|refine jk ?_|refine jl ?_|refine jm ?_|refine jn ?_|refine jo ?_|refine jp ?_|refine jq ?_|refine jr ?_|refine js ?_|refine jt ?_|refine ju ?_|refine jv ?_|refine jw ?_|refine jx ?_|refine jy ?_|refine jz ?_|refine jA ?_|refine jB ?_|refine jC ?_|refine jD ?_|refine jE ?_|refine jF ?_|refine jG ?_|refine jH ?_|refine jI ?_|refine jJ ?_|refine jK ?_|refine jL ?_|refine jM (by assumption) ?_|refine jN (by assumption) rfl ?_|refine jO (by assumption) ?_|refine jP (by assumption) rfl ?_|refine jQ ?_|refine jR ?_|refine jS ?_|refine jT ?_|refine jU (by assumption) rfl ?_|refine jG ?_ (by decide)|refine jH ?_ (by decide)|refine jI ?_ (by decide)|refine jJ ?_ (by decide)|refine jC ?_ (by decide)|refine jy ?_ (by decide)))
        exact no (by rw [hb]; simp)
      | true =>
        simp only [if_true]
        (repeat (first|refine ja ?_|refine jb ?_|refine jc ?_|refine jd ?_|refine je ?_|refine jf ?_|refine jg ?_|refine jh ?_|refine ji ?_|refine jj ?_|refine jk ?_|refine jl ?_|refine jm ?_|refine jn ?_|refine jo ?_|refine jp ?_|refine jq ?_|refine jr ?_|refine js ?_|refine jt ?_|refine ju ?_|refine jv ?_|refine jw ?_|refine jx ?_|refine jy ?_|refine jz ?_|refine jA ?_|refine jB ?_|refine jC ?_|refine jD ?_|refine jE ?_|refine jF ?_|refine jG ?_|refine jH ?_|refine jI ?_|refine jJ ?_|refine jK ?_|refine jL ?_|refine jM (by assumption) ?_|refine jN (by assumption) rfl ?_|refine jO (by assumption) ?_|refine jP (by assumption) rfl ?_|refine jQ ?_|refine jR ?_|refine jS ?_|refine jT ?_|refine jU (by assumption) rfl ?_|refine jG ?_ (by decide)|refine jH ?_ (by decide)|refine jI ?_ (by decide)|refine jJ ?_ (by decide)|refine jC ?_ (by decide)|refine jy ?_ (by decide)))
        by_cases h0 : 0 ≤ x.b
        rotate_left
        · (repeat (first|refine ja ?_|refine jb ?_|refine jc ?_|refine jd ?_|refine je ?_|refine jf ?_|refine jg ?_|refine jh ?_|refine ji ?_|refine jj ?_|refine jk ?_|refine jl ?_|refine jm ?_|refine jn ?_|refine jo ?_|refine jp ?_|refine jq ?_|refine jr ?_|refine js ?_|refine jt ?_|refine ju ?_|refine jv ?_|refine jw ?_|refine jx ?_|refine jy ?_|refine jz ?_|refine jA ?_|refine jB ?_|refine jC ?_|refine jD ?_|refine jE ?_|refine jF ?_|refine jG ?_|refine jH ?_|refine jI ?_|refine jJ ?_|refine jK ?_|refine jL ?_|refine jM (by assumption) ?_|refine jN (by assumption) rfl ?_|refine jO (by assumption) ?_|refine jP (by assumption) rfl ?_|refine jQ ?_|refine jR ?_|refine jS ?_|refine jT ?_|refine jU (by assumption) rfl ?_|refine jG ?_ (by decide)|refine jH ?_ (by decide)|refine jI ?_ (by decide)|refine jJ ?_ (by decide)|refine jC ?_ (by decide)|refine jy ?_ (by decide)))
          exact no (by simp [h0])
        rw [hil]
        by_cases hb2 : x.b < (d.disk.length : Int)
        rotate_left
        · (repeat (first|refine ja ?_|refine jb ?_|refine jc ?_|refine jd ?_|refine je ?_|refine jf ?_|refine jg ?_|refine jh ?_|refine ji ?_|refine jj ?_|refine jk ?_|refine jl ?_|refine jm ?_|refine jn ?_|refine jo ?_|refine jp ?_|refine jq ?_|refine jr ?_|refine js ?_|refine jt ?_|refine ju ?_|refine jv ?_|refine jw ?_|refine jx ?_|refine jy ?_|refine jz ?_|refine jA ?_|refine jB ?_|refine jC ?_|refine jD ?_|refine jE ?_|refine jF ?_|refine jG ?_|refine jH ?_|refine jI ?_|refine jJ ?_|refine jK ?_|refine jL ?_|refine jM (by assumption) ?_|refine jN (by assumption) rfl ?_|refine jO (by assumption) ?_|refine jP (by assumption) rfl ?_|refine jQ ?_|refine jR ?_|refine jS ?_|refine jT ?_|refine jU (by assumption) rfl ?_|refine jG ?_ (by decide)|refine jH ?_ (by decide)|refine jI ?_ (by decide)|refine jJ ?_ (by decide)|refine jC ?_ (by decide)|refine jy ?_ (by decide)))
          exact no (by simp [hb2])
        have hyes : (decide (i < 63) && bitZ m i && decide (0 ≤ x.b ∧ x.b < (d.disk.length : Int))) = true := by simp [h63, hb, h0, hb2]
        rw [hyes, if_pos rfl] at es
        (repeat (first|refine ja ?_|refine jb ?_|refine jc ?_|refine jd ?_|refine je ?_|refine jf ?_|refine jg ?_|refine jh ?_|refine ji ?_|refine jj ?_|refine jk ?_|refine jl ?_|refine jm ?_|refine jn ?_|refine jo ?_|refine jp ?_|refine jq ?_|refine jr ?_|refine js ?_|refine jt ?_|refine ju ?_|refine jv ?_|refine jw ?_|refine jx ?_|refine jy ?_|refine jz ?_|refine jA ?_|refine jB ?_|refine jC ?_|refine jD ?_|refine jE ?_|refine jF ?_|refine jG ?_|refine jH ?_|refine jI ?_|refine jJ ?_|refine jK ?_|refine jL ?_|refine jM (by assumption) ?_|refine jN (by assumption) rfl ?_|refine jO (by assumption) ?_|refine jP (by assumption) rfl ?_|refine jQ ?_|refine jR ?_|refine jS ?_|refine jT ?_|refine jU (by assumption) rfl ?_|refine jG ?_ (by decide)|refine jH ?_ (by decide)|refine jI ?_ (by decide)|refine jJ ?_ (by decide)|refine jC ?_ (by decide)|refine jy ?_ (by decide)))
        rw [hil] at g5 hK2
        refine M.idxStore_i (xs := imgN d.disk (spairs d.pend) m i) (by rw [GI, hil]; exact g5) h0 (by rw [hil]; exact hb2) (fun w6 g6 k6 s6 => ?_)
        exact hK2 _ _ ⟨by rw [es]; exact g6, k25.trans k6 (fun _ _ h => h)⟩
  · have e : i = d.pend.length := by omega
    subst e
    (repeat (first|refine ja ?_|refine jb ?_|refine jc ?_|refine jd ?_|refine je ?_|refine jf ?_|refine jg ?_|refine jh ?_|refine ji ?_|refine jj ?_|refine jk ?_|refine jl ?_|refine jm ?_|refine jn ?_|refine jo ?_|refine jp ?_|refine jq ?_|refine jr ?_|refine js ?_|refine jt ?_|refine ju ?_|refine jv ?_|refine jw ?_|refine jx ?_|refine jy ?_|refine jz ?_|refine jA ?_|refine jB ?_|refine jC ?_|refine jD ?_|refine jE ?_|refine jF ?_|refine jG ?_|refine jH ?_|refine jI ?_|refine jJ ?_|refine jK ?_|refine jL ?_|refine jM (by assumption) ?_|refine jN (by assumption) rfl ?_|refine jO (by assumption) ?_|refine jP (by assumption) rfl ?_|refine jQ ?_|refine jR ?_|refine jS ?_|refine jT ?_|refine jU (by assumption) rfl ?_))
    have el : imgN d.disk (spairs d.pend) m d.pend.length = imgL d.disk (spairs d.pend) m := by
      unfold imgL
      simp [spairs]
    rw [el] at g3
    exact ⟨g3.mono (fun b hb h => by have h : w1.heap.size ≤ b := h; show w.heap.size ≤ b; omega), k03⟩
theorem fresh_ret {v : Value} {xs : List Int} (h : LV vi w D v xs) (hf : xs.length ≤ 1000000) : Ret Try.prog 8 #[v] w (fun r w' => ∃ u, r = .agg ⟨[u, .slice none 0 0, vi 0]⟩ ∧ GI w' (w.heap.size ≤ ·) u xs ∧ Keep w w' No) := by
  refine ok8 _ _ _ ?_
  unfold sh8
  refine M.new_i (l := [.slice none 0 0, .slice none 0 0, vi 0]) (fun w1 b1 k1 s1 => ?_)
  refine M.call_i (clone_ret (h.keep k1 (fun _ _ _ h => h)) hf) ?_; rintro u w2 ⟨g2, k2⟩
  obtain ⟨A, c, rfl, _, _⟩ := GC.row2 g2 (by omega)
  refine M.pure_i (.agg #[.slice A xs.length c, .slice none 0 0, vi 0]) (fun _ => by kernel_rfl) ?_
  refine M.storeAll_i (b1.keep k2 (fun h => h)) rfl rfl (List.all_eq_true.1 rfl) (fun w3 b3 k3 s3 => ?_)
  refine M.loadAll_i b3 rfl ?_
  have q1 := k1.size; have q2 := k2.size
  exact ⟨_, rfl, (g2.keep k3 (fun b hb h e => by have h : w1.heap.size ≤ b := h; omega)).mono (fun b hb h => by have h : w1.heap.size ≤ b := h; show w.heap.size ≤ b; omega), (k1.trans k2 (fun _ _ h => h)).trans k3 (fun b hb h => by omega)⟩
theorem sliceArr_run (t : TypeId) (b n N : Nat) (ht : Try.prog.underlying t = some (.array (Try.prog.arrayLen t) (Try.prog.elem t))) (hN : Try.prog.arrayLen t = N) (hs : ∀ w, (sizeOf (Try.prog.elem t)).run Try.prog w = .ok 1 w) (hn : n ≤ N) (hN0 : 0 < N) (w : World) :
    (Instr.sliceAt t (.pointer (some ⟨b, 0, none⟩)) none (some (vi n)) none).run Try.prog w = .ok (.slice (some ⟨b, 0, none⟩) n N) w := by
  rw [run_sliceAt_array_h w t _ ht .i64 n (by omega) (by rw [hN]; omega), hs]
  simp only [Result.andThen, slicedAt, hN, Int.toNat_natCast, Nat.zero_mul, Nat.sub_zero]
  rw [if_neg (by omega)]
  simp [add_mk]
theorem smasks_ret {a b : Value} {d : SDv} (h : SDvO w D a b d) (hf : d.few) (hI : ∀ p ∈ d.pend, I64 p.e) :
    Ret Try.prog 10 #[.agg ⟨[a, b, vi d.ep]⟩] w (fun r w' => GI w' (w.heap.size ≤ ·) r (masksL (epsS d.pend)) ∧ Keep w w' No) := by
  have h := h.mono (D' := (· < w.heap.size)) (fun b hb _ => hb)
  have hp1 : d.disk.length ≤ 1000000 := hf.1
  have hp2 : d.pend.length ≤ 1000000 := hf.2
  obtain ⟨h1, A, c, rfl, hr, hc⟩ := h
  have el : (epsS d.pend).length = d.pend.length := by simp [epsS]
  refine ok10 _ _ _ ?_
  unfold sh10
  refine M.new_i (l := [a, .slice A d.pend.length c, vi d.ep]) (fun w1 b1 k1 s1 => ?_)
  by_cases h12 : 12 < d.pend.length
  · (repeat (first|refine ja ?_|refine jb ?_|refine jc ?_|refine jd ?_|refine je ?_|refine jf ?_|refine jg ?_|refine jh ?_|refine ji ?_|refine jj ?_|refine jk ?_|refine jl ?_|refine jm ?_|refine jn ?_|refine jo ?_|refine jp ?_|refine jq ?_|refine jr ?_|refine js ?_|refine jt ?_|refine ju ?_|refine jv ?_|refine jw ?_|refine jx ?_|refine jy ?_|refine jz ?_|refine jA ?_|refine jB ?_|refine jC ?_|refine jD ?_|refine jE ?_|refine jF ?_|refine jG ?_|refine jH ?_|refine jI ?_|refine jJ ?_|refine jK ?_|refine jL ?_|refine jM (by assumption) ?_|refine jN (by assumption) rfl ?_|refine jO (by assumption) ?_|refine jP (by assumption) rfl ?_|refine jQ ?_|refine jR ?_|refine jS ?_|refine jT ?_|refine jU (by assumption) rfl ?_))
    refine ⟨?_, k1⟩
    unfold masksL
    rw [el, if_pos h12]; exact GI.nil _ _
  (repeat (first|refine ja ?_|refine jb ?_|refine jc ?_|refine jd ?_|refine je ?_|refine jf ?_|refine jg ?_|refine jh ?_|refine ji ?_|refine jj ?_|refine jk ?_|refine jl ?_|refine jm ?_|refine jn ?_|refine jo ?_|refine jp ?_|refine jq ?_|refine jr ?_|refine js ?_|refine jt ?_|refine ju ?_|refine jv ?_|refine jw ?_|refine jx ?_|refine jy ?_|refine jz ?_|refine jA ?_|refine jB ?_|refine jC ?_|refine jD ?_|refine jE ?_|refine jF ?_|refine jG ?_|refine jH ?_|refine jI ?_|refine jJ ?_|refine jK ?_|refine jL ?_|refine jM (by assumption) ?_|refine jN (by assumption) rfl ?_|refine jO (by assumption) ?_|refine jP (by assumption) rfl ?_|refine jQ ?_|refine jR ?_|refine jS ?_|refine jT ?_|refine jU (by assumption) rfl ?_))
  refine M.new_i (l := List.replicate 12 (vi 0)) (fun w2 b2 k2 s2 => ?_)
  have b12 := b1.keep k2 (fun h => h)
  have k02 := k1.trans k2 (fun _ _ h => h)
  (repeat (first|refine ja ?_|refine jb ?_|refine jc ?_|refine jd ?_|refine je ?_|refine jf ?_|refine jg ?_|refine jh ?_|refine ji ?_|refine jj ?_|refine jk ?_|refine jl ?_|refine jm ?_|refine jn ?_|refine jo ?_|refine jp ?_|refine jq ?_|refine jr ?_|refine js ?_|refine jt ?_|refine ju ?_|refine jv ?_|refine jw ?_|refine jx ?_|refine jy ?_|refine jz ?_|refine jA ?_|refine jB ?_|refine jC ?_|refine jD ?_|refine jE ?_|refine jF ?_|refine jG ?_|refine jH ?_|refine jI ?_|refine jJ ?_|refine jK ?_|refine jL ?_|refine jM (by assumption) ?_|refine jN (by assumption) rfl ?_|refine jO (by assumption) ?_|refine jP (by assumption) rfl ?_|refine jQ ?_|refine jR ?_|refine jS ?_|refine jT ?_|refine jU (by assumption) rfl ?_))
  refine M.loop_i (σ := Nat) (fun i vals w' => ∃ arr : List Int, vals = [vi i] ∧ i ≤ d.pend.length ∧ arr.length = 12 ∧ Blk w' w1.heap.size (arr.map vi) ∧ arr.take i = (epsS d.pend).take i ∧ Keep w2 w' (· = w1.heap.size)) (fun i => d.pend.length - i) 0 ⟨List.replicate 12 0, rfl, by omega, rfl, b2, rfl, Keep.refl _ _⟩ ?_
  rintro i vals w3 K ⟨arr, rfl, hi, hal, b3, ht, k3⟩ hK _
  simp only [List.getD_cons_zero, List.getD_cons_succ]
  have k03 : Keep w w3 No := k02.trans k3 (fun b hb h => by have h : b = w1.heap.size := h; omega)
  by_cases hlt : i < d.pend.length
  · obtain ⟨x, hx⟩ : ∃ x, d.pend[i]? = some x := ⟨_, List.getElem?_eq_getElem hlt⟩
    have hr3 := hr.keep k03 (fun _ _ _ h => h)
    have b3l := b3.lt
    (repeat (first|refine ja ?_|refine jb ?_|refine jc ?_|refine jd ?_|refine je ?_|refine jf ?_|refine jg ?_|refine jh ?_|refine ji ?_|refine jj ?_|refine jk ?_|refine jl ?_|refine jm ?_|refine jn ?_|refine jo ?_|refine jp ?_|refine jq ?_|refine jr ?_|refine js ?_|refine jt ?_|refine ju ?_|refine jv ?_|refine jw ?_|refine jx ?_|refine jy ?_|refine jz ?_|refine jA ?_|refine jB ?_|refine jC ?_|refine jD ?_|refine jE ?_|refine jF ?_|refine jG ?_|refine jH ?_|refine jI ?_|refine jJ ?_|refine jK ?_|refine jL ?_|refine jM (by assumption) ?_|refine jN (by assumption) rfl ?_|refine jO (by assumption) ?_|refine jP (by assumption) rfl ?_|refine jQ ?_|refine jR ?_|refine jS ?_|refine jT ?_|refine jU (by assumption) rfl ?_))
    refine M.idxSP_i hr3 hx (fun b4 o4 hc4 => ?_)
    refine M.loadSP_i hc4 ?_
    refine M.new_i (l := [vi 0, vi 0, vi 0]) (fun w4 b4 k4 s4 => ?_)
    refine M.storeAll_i b4 rfl rfl (sp_one x) (fun w5 b5 k5 s5 => ?_)
    have b5 : Blk w5 w3.heap.size [vi x.b, vi x.v, vi x.e] := b5
    have k35 : Keep w3 w5 No := k4.trans k5 (fun b hb h => by omega)
    have b35 := b3.keep k35 (fun h => h)
    (repeat (first|refine ja ?_|refine jb ?_|refine jc ?_|refine jd ?_|refine je ?_|refine jf ?_|refine jg ?_|refine jh ?_|refine ji ?_|refine jj ?_|refine jk ?_|refine jl ?_|refine jm ?_|refine jn ?_|refine jo ?_|refine jp ?_|refine jq ?_|refine jr ?_|refine js ?_|refine jt ?_|refine ju ?_|refine jv ?_|refine jw ?_|refine jx ?_|refine jy ?_|refine jz ?_|refine jA ?_|refine jB ?_|refine jC ?_|refine jD ?_|refine jE ?_|refine jF ?_|refine jG ?_|refine jH ?_|refine jI ?_|refine jJ ?_|refine jK ?_|refine jL ?_|refine jM (by assumption) ?_|refine jN (by assumption) rfl ?_|refine jO (by assumption) ?_|refine jP (by assumption) rfl ?_|refine jQ ?_|refine jR ?_|refine jS ?_|refine jT ?_|refine jU (by assumption) rfl ?_))
    refine M.arrA_i (by omega) (by omega) ?_
    simp only [Nat.zero_add, Nat.mul_one, Int.toNat_natCast]
    refine M.store_i b35 (by rw [List.length_map]; omega) rfl (fun w6 b6 k6 s6 => ?_)
    (repeat (first|refine ja ?_|refine jb ?_|refine jc ?_|refine jd ?_|refine je ?_|refine jf ?_|refine jg ?_|refine jh ?_|refine ji ?_|refine jj ?_|refine jk ?_|refine jl ?_|refine jm ?_|refine jn ?_|refine jo ?_|refine jp ?_|refine jq ?_|refine jr ?_|refine js ?_|refine jt ?_|refine ju ?_|refine jv ?_|refine jw ?_|refine jx ?_|refine jy ?_|refine jz ?_|refine jA ?_|refine jB ?_|refine jC ?_|refine jD ?_|refine jE ?_|refine jF ?_|refine jG ?_|refine jH ?_|refine jI ?_|refine jJ ?_|refine jK ?_|refine jL ?_|refine jM (by assumption) ?_|refine jN (by assumption) rfl ?_|refine jO (by assumption) ?_|refine jP (by assumption) rfl ?_|refine jQ ?_|refine jR ?_|refine jS ?_|refine jT ?_|refine jU (by assumption) rfl ?_))
    refine hK (i + 1) _ _ (by omega) ⟨arr.set i x.e, rfl, by omega, by rw [List.length_set]; exact hal, by rw [List.map_set]; exact b6, ?_, (k3.trans k35 (fun _ _ h => h.elim)).trans k6 (fun _ _ h => h)⟩
    rw [List.take_add_one, List.take_add_one, List.getElem?_set, if_pos rfl, if_pos (by omega), List.take_set_of_le (by omega), ht]
    unfold epsS
    rw [List.getElem?_map, hx]; rfl
  · have e : i = d.pend.length := by omega
    subst e
    have b13 := b12.keep k3 (fun h => by omega)
    have hte : (epsS d.pend).take d.pend.length = epsS d.pend := List.take_of_length_le (by omega)
    rw [hte] at ht
    (repeat (first|refine ja ?_|refine jb ?_|refine jc ?_|refine jd ?_|refine je ?_|refine jf ?_|refine jg ?_|refine jh ?_|refine ji ?_|refine jj ?_|refine jk ?_|refine jl ?_|refine jm ?_|refine jn ?_|refine jo ?_|refine jp ?_|refine jq ?_|refine jr ?_|refine js ?_|refine jt ?_|refine ju ?_|refine jv ?_|refine jw ?_|refine jx ?_|refine jy ?_|refine jz ?_|refine jA ?_|refine jB ?_|refine jC ?_|refine jD ?_|refine jE ?_|refine jF ?_|refine jG ?_|refine jH ?_|refine jI ?_|refine jJ ?_|refine jK ?_|refine jL ?_|refine jM (by assumption) ?_|refine jN (by assumption) rfl ?_|refine jO (by assumption) ?_|refine jP (by assumption) rfl ?_|refine jQ ?_|refine jR ?_|refine jS ?_|refine jT ?_|refine jU (by assumption) rfl ?_))
    refine M.new_i (l := [.slice none 0 0, .slice none 0 0, vi 0]) (fun w4 b4 k4 s4 => ?_)
    have b13 := b13.keep k4 (fun h => h)
    have b34 := b3.keep k4 (fun h => h)
    have k04 := k03.trans k4 (fun _ _ h => h)
    (repeat (first|refine ja ?_|refine jb ?_|refine jc ?_|refine jd ?_|refine je ?_|refine jf ?_|refine jg ?_|refine jh ?_|refine ji ?_|refine jj ?_|refine jk ?_|refine jl ?_|refine jm ?_|refine jn ?_|refine jo ?_|refine jp ?_|refine jq ?_|refine jr ?_|refine js ?_|refine jt ?_|refine ju ?_|refine jv ?_|refine jw ?_|refine jx ?_|refine jy ?_|refine jz ?_|refine jA ?_|refine jB ?_|refine jC ?_|refine jD ?_|refine jE ?_|refine jF ?_|refine jG ?_|refine jH ?_|refine jI ?_|refine jJ ?_|refine jK ?_|refine jL ?_|refine jM (by assumption) ?_|refine jN (by assumption) rfl ?_|refine jO (by assumption) ?_|refine jP (by assumption) rfl ?_|refine jQ ?_|refine jR ?_|refine jS ?_|refine jT ?_|refine jU (by assumption) rfl ?_))
    refine M.val_i (sliceArr_run _ w1.heap.size d.pend.length 12 (by kernel_rfl) (by kernel_rfl) (fun w => by kernel_rfl) (by omega) (by omega) w4) ?_
    have hrow : Row w4 (fun _ => True) (some ⟨w1.heap.size, 0, none⟩) ((epsS d.pend).map vi) := by
      rw [← ht, List.map_take]
      have := (Row.of_blk' (D := fun _ => True) b34 trivial).take d.pend.length
      exact this
    (repeat (first|refine ja ?_|refine jb ?_|refine jc ?_|refine jd ?_|refine je ?_|refine jf ?_|refine jg ?_|refine jh ?_|refine ji ?_|refine jj ?_|refine jk ?_|refine jl ?_|refine jm ?_|refine jn ?_|refine jo ?_|refine jp ?_|refine jq ?_|refine jr ?_|refine js ?_|refine jt ?_|refine ju ?_|refine jv ?_|refine jw ?_|refine jx ?_|refine jy ?_|refine jz ?_|refine jA ?_|refine jB ?_|refine jC ?_|refine jD ?_|refine jE ?_|refine jF ?_|refine jG ?_|refine jH ?_|refine jI ?_|refine jJ ?_|refine jK ?_|refine jL ?_|refine jM (by assumption) ?_|refine jN (by assumption) rfl ?_|refine jO (by assumption) ?_|refine jP (by assumption) rfl ?_|refine jQ ?_|refine jR ?_|refine jS ?_|refine jT ?_|refine jU (by assumption) rfl ?_))
    have q1 := k1.size; have q2 := k2.size; have q3 := k3.size
    refine M.loop_i (σ := Nat) (fun i vals w' => ∃ sv, vals = [vi i] ∧ i ≤ d.pend.length ∧ GC w' (w4.heap.size ≤ ·) 3 sv i ((((epsS d.pend).take i).map (fun e => (⟨0, 0, e⟩ : PD))).flatMap PD.cells) ∧ Blk w' w3.heap.size [.slice none 0 0, sv, vi 0] ∧ Keep w4 w' (fun b => b = w3.heap.size ∨ w4.heap.size ≤ b)) (fun i => d.pend.length - i) 0
      ⟨_, rfl, by omega, GC.nil _ _ _, b4, Keep.refl _ _⟩ ?_
    rintro i vals w5 K2 ⟨sv, rfl, hi2, g5, b5, k5⟩ hK2 _
    simp only [List.getD_cons_zero, List.getD_cons_succ]
    have q5 := k5.size
    by_cases hlt2 : i < d.pend.length
    · obtain ⟨e, he⟩ : ∃ e, (epsS d.pend)[i]? = some e := ⟨_, List.getElem?_eq_getElem (by omega)⟩
      have hrow5 : Row w5 (fun _ => True) (some ⟨w1.heap.size, 0, none⟩) ((epsS d.pend).map vi) := by
        refine ((Row.mono (D' := fun b => b = w1.heap.size) (by
          rw [← ht, List.map_take]
          exact (Row.of_blk' (D := fun b => b = w1.heap.size) b34 rfl).take d.pend.length) (fun b _ h => h)).keep k5 (fun b hb h1 h2 => ?_)).mono (fun _ _ _ => trivial)
        have h1 : b = w1.heap.size := h1
        have := b3.lt
        rcases h2 with h2 | h2 <;> omega
      (repeat (first|refine ja ?_|refine jb ?_|refine jc ?_|refine jd ?_|refine je ?_|refine jf ?_|refine jg ?_|refine jh ?_|refine ji ?_|refine jj ?_|refine jk ?_|refine jl ?_|refine jm ?_|refine jn ?_|refine jo ?_|refine jp ?_|refine jq ?_|refine jr ?_|refine js ?_|refine jt ?_|refine ju ?_|refine jv ?_|refine jw ?_|refine jx ?_|refine jy ?_|refine jz ?_|refine jA ?_|refine jB ?_|refine jC ?_|refine jD ?_|refine jE ?_|refine jF ?_|refine jG ?_|refine jH ?_|refine jI ?_|refine jJ ?_|refine jK ?_|refine jL ?_|refine jM (by assumption) ?_|refine jN (by assumption) rfl ?_|refine jO (by assumption) ?_|refine jP (by assumption) rfl ?_|refine jQ ?_|refine jR ?_|refine jS ?_|refine jT ?_|refine jU (by assumption) rfl ?_))
      refine M.idxLV_i hrow5 el (by omega) (by omega) (x := e) (by simpa using he) (fun bb oo hA hcc => ?_)
      (repeat (first|refine ja ?_|refine jb ?_|refine jc ?_|refine jd ?_|refine je ?_|refine jf ?_|refine jg ?_|refine jh ?_|refine ji ?_|refine jj ?_|refine jk ?_|refine jl ?_|refine jm ?_|refine jn ?_|refine jo ?_|refine jp ?_|refine jq ?_|refine jr ?_|refine js ?_|refine jt ?_|refine ju ?_|refine jv ?_|refine jw ?_|refine jx ?_|refine jy ?_|refine jz ?_|refine jA ?_|refine jB ?_|refine jC ?_|refine jD ?_|refine jE ?_|refine jF ?_|refine jG ?_|refine jH ?_|refine jI ?_|refine jJ ?_|refine jK ?_|refine jL ?_|refine jM (by assumption) ?_|refine jN (by assumption) rfl ?_|refine jO (by assumption) ?_|refine jP (by assumption) rfl ?_|refine jQ ?_|refine jR ?_|refine jS ?_|refine jT ?_|refine jU (by assumption) rfl ?_))
      refine M.pure_i (.agg #[vi 0, vw 0, vi e]) (fun _ => by kernel_rfl) ?_
      refine M.buildSlice_i [vi 0, vw 0, vi e] (by kernel_rfl) (fun w6 b6 k6 s6 => ?_)
      have b56 := b5.keep k6 (fun h => h)
      refine M.append_i (m := 1) (g5.keep k6 (fun _ _ _ h => h)) (Row.of_blk' (D := fun _ => True) b6 trivial) rfl (List.all_eq_true.1 rfl) rfl (by omega) (by omega) (fun v7 w7 g7 k7 => ?_)
      have q6 := k6.size
      have b57 := b56.keep k7 (fun h => by have h : w4.heap.size ≤ w3.heap.size := h; omega)
      have hv7 := GC.one g7
      (repeat (first|refine ja ?_|refine jb ?_|refine jc ?_|refine jd ?_|refine je ?_|refine jf ?_|refine jg ?_|refine jh ?_|refine ji ?_|refine jj ?_|refine jk ?_|refine jl ?_|refine jm ?_|refine jn ?_|refine jo ?_|refine jp ?_|refine jq ?_|refine jr ?_|refine js ?_|refine jt ?_|refine ju ?_|refine jv ?_|refine jw ?_|refine jx ?_|refine jy ?_|refine jz ?_|refine jA ?_|refine jB ?_|refine jC ?_|refine jD ?_|refine jE ?_|refine jF ?_|refine jG ?_|refine jH ?_|refine jI ?_|refine jJ ?_|refine jK ?_|refine jL ?_|refine jM (by assumption) ?_|refine jN (by assumption) rfl ?_|refine jO (by assumption) ?_|refine jP (by assumption) rfl ?_|refine jQ ?_|refine jR ?_|refine jS ?_|refine jT ?_|refine jU (by assumption) rfl ?_))
      refine M.store_i b57 (by simp) hv7 (fun w8 b8 k8 s8 => ?_)
      (repeat (first|refine ja ?_|refine jb ?_|refine jc ?_|refine jd ?_|refine je ?_|refine jf ?_|refine jg ?_|refine jh ?_|refine ji ?_|refine jj ?_|refine jk ?_|refine jl ?_|refine jm ?_|refine jn ?_|refine jo ?_|refine jp ?_|refine jq ?_|refine jr ?_|refine js ?_|refine jt ?_|refine ju ?_|refine jv ?_|refine jw ?_|refine jx ?_|refine jy ?_|refine jz ?_|refine jA ?_|refine jB ?_|refine jC ?_|refine jD ?_|refine jE ?_|refine jF ?_|refine jG ?_|refine jH ?_|refine jI ?_|refine jJ ?_|refine jK ?_|refine jL ?_|refine jM (by assumption) ?_|refine jN (by assumption) rfl ?_|refine jO (by assumption) ?_|refine jP (by assumption) rfl ?_|refine jQ ?_|refine jR ?_|refine jS ?_|refine jT ?_|refine jU (by assumption) rfl ?_))
      have q7 := k7.size
      refine hK2 (i + 1) _ _ (by omega) ⟨v7, rfl, by omega, ?_, b8, (((k5.trans k6 (fun _ _ h => h.elim)).trans k7 (fun b hb h => .inr h)).trans k8 (fun b hb h => .inl h))⟩
      have e1 : (((epsS d.pend).take (i + 1)).map (fun e => (⟨0, 0, e⟩ : PD))).flatMap PD.cells = (((epsS d.pend).take i).map (fun e => (⟨0, 0, e⟩ : PD))).flatMap PD.cells ++ [vi 0, vw 0, vi e] := by
        rw [List.take_add_one, he]
        simp [PD.cells]
      rw [e1]
      have g8 := g7.keep k8 (fun b hb h e2 => by
        have e2 : b = w3.heap.size := e2
        rcases h with h | h
        · have h : w4.heap.size ≤ b := h; omega
        · omega)
      exact g8.mono (fun b hb h => by
        rcases h with h | h
        · exact h
        · show w4.heap.size ≤ b; omega)
    · have e2 : i = d.pend.length := by omega
      subst e2
      rw [hte] at g5
      (repeat (first|refine ja ?_|refine jb ?_|refine jc ?_|refine jd ?_|refine je ?_|refine jf ?_|refine jg ?_|refine jh ?_|refine ji ?_|refine jj ?_|refine jk ?_|refine jl ?_|refine jm ?_|refine jn ?_|refine jo ?_|refine jp ?_|refine jq ?_|refine jr ?_|refine js ?_|refine jt ?_|refine ju ?_|refine jv ?_|refine jw ?_|refine jx ?_|refine jy ?_|refine jz ?_|refine jA ?_|refine jB ?_|refine jC ?_|refine jD ?_|refine jE ?_|refine jF ?_|refine jG ?_|refine jH ?_|refine jI ?_|refine jJ ?_|refine jK ?_|refine jL ?_|refine jM (by assumption) ?_|refine jN (by assumption) rfl ?_|refine jO (by assumption) ?_|refine jP (by assumption) rfl ?_|refine jQ ?_|refine jR ?_|refine jS ?_|refine jT ?_|refine jU (by assumption) rfl ?_))
      refine M.loadAll_i b5 rfl ?_
      let d' : Dv := ⟨[], (epsS d.pend).map (fun e => (⟨0, 0, e⟩ : PD)), 0⟩
      have hd' : DvO w5 (w4.heap.size ≤ ·) (.slice none 0 0) sv d' := ⟨LV.nil _ _ _, gc_ln (by simp [d', el]) g5⟩
      have hep : epsP d'.pend = epsS d.pend := by
        simp [d', epsP, epsS]
      have hI' : ∀ p ∈ d'.pend, I64 p.e := fun p hp => by
        obtain ⟨e, he, rfl⟩ := List.mem_map.1 hp
        obtain ⟨x, hx, rfl⟩ := List.mem_map.1 he
        exact hI x hx
      have k05 : Keep w w5 No := k04.trans k5 (fun b hb h => by rcases h with h | h <;> omega)
      refine M.call_i (subMasks_ret hd' hI') ?_; rintro r w6 ⟨g6, k6⟩
      rw [hep] at g6
      exact ⟨g6.mono (fun b hb h => by have h : w5.heap.size ≤ b := h; have := k05.size; show w.heap.size ≤ b; omega), k05.trans k6 (fun _ _ h => h)⟩
end
end Go.Proofs.Ytfffepeloiefiaa
