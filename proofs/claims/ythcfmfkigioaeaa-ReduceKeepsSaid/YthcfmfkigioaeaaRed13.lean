import Derived.Test.YthcfmfkigioaeaaRed13p
import Derived.Test.YthcfmfkigioaeaaLnGw
namespace Go.Proofs.Ythcfmfkigioaeaa
open Go.Mw
set_option linter.unusedVariables false
set_option linter.unusedSimpArgs false
set_option maxRecDepth 100000
attribute [local irreducible] M.val M.unit M.next M.pick M.new M.nilCheck M.load1 M.loadA M.store M.fieldAddr M.indexSl M.indexArr M.slice M.makeSlice M.buildSlice M.len M.lenS M.cap M.append M.extract M.conv M.not M.neg M.bin M.shift M.eqB M.eqNil M.call M.callv M.gd M.share M.cond M.loop M.draw pureW readW Ret
/-! cmp.isNaN[int]: function 18 -/
def sh18 (x0 : Value) (R : Kt) (w : World) : Prop :=
  M.bin .neq x0 x0 (fun t5 w =>
  R t5 w) w
theorem ok18 (x0 : Value) (R : Kt) (w : World) (h : sh18 x0 R w) : Ret Try.prog 18 #[x0] w R :=
  ret_mk <| calls_of_comp mixed (c := Try.f18.body.getD .skip) (args := [x0]) (rs := [(ResultVar.tmp 2)]) (Ann.seq Ann.text (Ann.seq Ann.text Ann.leaf))
    Try.func18 (by kernel_rfl) (by kernel_rfl)
    (Eq.mp (by kernel_rfl) h)
/-! cmp.Compare[int]: function 16 -/
def sh16 (x0 x1 : Value) (R : Kt) (w : World) : Prop :=
  M.call Try.prog 18 #[x0] (fun t8 w =>
  M.call Try.prog 18 #[x1] (fun t10 w =>
  M.cond t8
  (M.cond t10
  (R (Value.int IntKind.i64 0) w)
  (R (Value.int IntKind.i64 (-1)) w))
  (M.cond t10
  (R (Value.int IntKind.i64 1) w)
  (M.bin .lss x0 x1 (fun t16 w =>
  M.cond t16
  (R (Value.int IntKind.i64 (-1)) w)
  (M.bin .gtr x0 x1 (fun t19 w =>
  M.cond t19
  (R (Value.int IntKind.i64 1) w)
  (R (Value.int IntKind.i64 0) w)) w)) w))) w) w
theorem ok16 (x0 x1 : Value) (R : Kt) (w : World) (h : sh16 x0 x1 R w) : Ret Try.prog 16 #[x0, x1] w R :=
  ret_mk <| calls_of_comp mixed (c := Try.f16.body.getD .skip) (args := [x0, x1]) (rs := [(ResultVar.tmp 4)]) (Ann.seq Ann.text (Ann.seq Ann.text (Ann.seq Ann.text (Ann.seq (Ann.seq Ann.text (Ann.cond (Ann.seq (Ann.seq Ann.text (Ann.cond (Ann.seq Ann.text Ann.leaf) Ann.leaf)) (Ann.seq Ann.text Ann.leaf)) Ann.leaf)) (Ann.seq (Ann.seq Ann.text (Ann.cond (Ann.seq Ann.text Ann.leaf) Ann.leaf)) (Ann.seq (Ann.seq Ann.text (Ann.cond (Ann.seq Ann.text Ann.leaf) Ann.leaf)) (Ann.seq (Ann.seq Ann.text (Ann.cond (Ann.seq Ann.text Ann.leaf) Ann.leaf)) (Ann.seq Ann.text Ann.leaf))))))))
    Try.func16 (by kernel_rfl) (by kernel_rfl)
    (Eq.mp (by kernel_rfl) h)
/-! cmp.Or[int]: function 15 -/
def sh15 (x0 : Value) (R : Kt) (w : World) : Prop :=
  M.len x0 (fun t7 w =>
  M.loop [(Value.int IntKind.i64 0)] (fun s1 K1 w => ∀ _ : List Value,
  M.bin .lss (s1.getD 0 undef) t7 (fun t9 w =>
  M.cond t9
  (M.indexSl 1 x0 (s1.getD 0 undef) (fun t10 w =>
  M.load1 t10 (fun t11 w =>
  M.bin .neq t11 (Value.int IntKind.i64 0) (fun t14 w =>
  M.cond t14
  (R t11 w)
  (M.bin .add (s1.getD 0 undef) (Value.int IntKind.i64 1) (fun t16 w =>
  K1 [t16] w) w)) w) w) w)
  (R (Value.int IntKind.i64 0) w)) w) w) w
theorem ok15 (x0 : Value) (R : Kt) (w : World) (h : sh15 x0 R w) : Ret Try.prog 15 #[x0] w R :=
  ret_mk <| calls_of_comp mixed (c := Try.f15.body.getD .skip) (args := [x0]) (rs := [(ResultVar.tmp 2)]) (Ann.seq Ann.text (Ann.seq Ann.text (Ann.seq (Ann.seq Ann.text (Ann.block (Ann.loop [8] [2, 5, 9, 10, 11, 12, 13, 14, 15, 16] (Ann.seq Ann.text (Ann.seq (Ann.cond Ann.leaf Ann.leaf) (Ann.seq (Ann.block (Ann.seq Ann.text (Ann.seq Ann.text (Ann.cond (Ann.seq Ann.text Ann.leaf) Ann.leaf)))) Ann.text)))))) (Ann.seq Ann.text Ann.leaf))))
    Try.func15 (by kernel_rfl) (by kernel_rfl)
    (Eq.mp (by kernel_rfl) h)
/-! breakwater/reduce.order: function 11 -/
def sh11 (x0 x1 : Value) (R : Kt) (w : World) : Prop :=
  M.new 26 (Value.cells x0) (fun t2 w =>
  M.new 26 (Value.cells x1) (fun t3 w =>
  M.draw (fun w =>
  M.fieldAddr 1 t2 (fun t5 w =>
  M.load1 t5 (fun t6 w =>
  M.fieldAddr 1 t3 (fun t7 w =>
  M.load1 t7 (fun t8 w =>
  M.fieldAddr 2 t3 (fun t10 w =>
  M.load1 t10 (fun t11 w =>
  M.fieldAddr 2 t2 (fun t12 w =>
  M.load1 t12 (fun t13 w =>
  M.fieldAddr 0 t2 (fun t15 w =>
  M.load1 t15 (fun t16 w =>
  M.fieldAddr 0 t3 (fun t17 w =>
  M.load1 t17 (fun t18 w =>
  M.call Try.prog 16 #[t6, t8] (fun t9 w =>
  ((M.load1 t17 (fun v' _ => v' = t18) w) ∧ ((M.load1 t15 (fun v' _ => v' = t16) w) ∧ ((M.load1 t12 (fun v' _ => v' = t13) w) ∧ ((M.load1 t10 (fun v' _ => v' = t11) w) ∧ M.call Try.prog 16 #[t11, t13] (fun t14 w =>
  ((M.load1 t17 (fun v' _ => v' = t18) w) ∧ ((M.load1 t15 (fun v' _ => v' = t16) w) ∧ M.call Try.prog 16 #[t16, t18] (fun t19 w =>
  M.buildSlice 3 1 #[.int .i64 0] 3 [(0, t9), (1, t14), (2, t19)] (fun t20 w =>
  M.call Try.prog 15 #[t20] (fun t21 w =>
  R t21 w) w) w) w))) w))))) w) w) w) w) w) w) w) w) w) w) w) w) w) w) w) w
theorem ok11 (x0 x1 : Value) (R : Kt) (w : World) (h : sh11 x0 x1 R w) : Ret Try.prog 11 #[x0, x1] w R :=
  ret_mk <| calls_of_comp mixed (c := Try.f11.body.getD .skip) (args := [x0, x1]) (rs := [(ResultVar.tmp 4)]) (Ann.seq Ann.text (Ann.seq (Ann.draw (Sch.take 0 (Sch.take 1 (Sch.take 2 (Sch.take 3 (Sch.take 5 (Sch.take 6 (Sch.take 7 (Sch.take 8 (Sch.take 10 (Sch.take 11 (Sch.take 12 (Sch.take 13 (Sch.one 4 (Sch.one 9 (Sch.one 14 (Sch.one 15 (Sch.one 16 (Sch.take 17 Sch.done))))))))))))))))))) Ann.leaf))
    Try.func11 (by kernel_rfl) (by kernel_rfl)
    (Eq.mp (by kernel_rfl) h)
/-! breakwater/reduce.Better: function 6 -/
def sh6 (x0 x1 : Value) (R : Kt) (w : World) : Prop :=
  M.new 26 (Value.cells x0) (fun t2 w =>
  M.new 26 (Value.cells x1) (fun t3 w =>
  M.loadA 3 t2 (fun t5 w =>
  M.loadA 3 t3 (fun t6 w =>
  M.call Try.prog 11 #[t5, t6] (fun t7 w =>
  M.bin .lss t7 (Value.int IntKind.i64 0) (fun t8 w =>
  R t8 w) w) w) w) w) w) w
theorem ok6 (x0 x1 : Value) (R : Kt) (w : World) (h : sh6 x0 x1 R w) : Ret Try.prog 6 #[x0, x1] w R :=
  ret_mk <| calls_of_comp mixed (c := Try.f6.body.getD .skip) (args := [x0, x1]) (rs := [(ResultVar.tmp 4)]) (Ann.seq Ann.text (Ann.seq Ann.text Ann.leaf))
    Try.func6 (by kernel_rfl) (by kernel_rfl)
    (Eq.mp (by kernel_rfl) h)
/-! breakwater/reduce.Keep$1: function 13 -/
def sh13 (x0 x1 x2 : Value) (R : Kt) (w : World) : Prop :=
  M.draw (fun w =>
  M.load1 x2 (fun t6 w =>
  M.indexSl 3 t6 x0 (fun t8 w =>
  M.loadA 3 t8 (fun t9 w =>
  M.load1 x2 (fun t10 w =>
  M.indexSl 3 t10 x1 (fun t12 w =>
  M.loadA 3 t12 (fun t13 w =>
  M.call Try.prog 11 #[t9, t13] (fun t14 w =>
  ((M.load1 x2 (fun v' _ => v' = t10) w) ∧ ((M.load1 x2 (fun v' _ => v' = t6) w) ∧ R t14 w))) w) w) w) w) w) w) w) w
theorem ok13 (x0 x1 x2 : Value) (R : Kt) (w : World) (h : sh13 x0 x1 x2 R w) : Ret Try.prog 13 #[x0, x1, x2] w R :=
  ret_mk <| calls_of_comp mixed (c := Try.f13.body.getD .skip) (args := [x0, x1, x2]) (rs := [(ResultVar.tmp 5)]) (Ann.seq Ann.text (Ann.seq (Ann.draw (Sch.take 0 (Sch.take 1 (Sch.take 2 (Sch.take 3 (Sch.take 4 (Sch.take 5 (Sch.take 6 (Sch.take 7 (Sch.one 8 (Sch.take 9 Sch.done))))))))))) Ann.leaf))
    Try.func13 (by kernel_rfl) (by kernel_rfl)
    (Eq.mp (by kernel_rfl) h)
/-! breakwater/reduce.Keep: function 9 -/
def sh9 (x0 : Value) (R : Kt) (w : World) : Prop :=
  M.new 22 (Value.cells x0) (fun t1 w =>
  M.load1 t1 (fun t9 w =>
  M.len t9 (fun t10 w =>
  M.makeSlice 4 1 1 #[.bool false] t10 t10 (fun t11 w =>
  M.load1 t1 (fun t12 w =>
  M.len t12 (fun t13 w =>
  M.loop [(Value.slice none 0 0), (Value.int IntKind.i64 0)] (fun s1 K1 w => ∀ _ : List Value,
  M.bin .lss (s1.getD 1 undef) t13 (fun t15 w =>
  M.cond t15
  (M.share (fun K2 w =>
  M.indexSl 3 t12 (s1.getD 1 undef) (fun t17 w =>
  M.loadA 3 t17 (fun t18 w =>
  M.new 26 #[.int .i64 0, .int .i64 0, .int .i64 0] (fun t6 w =>
  M.store 3 t6 t18 (fun _ w =>
  M.fieldAddr 1 t6 (fun t21 w =>
  M.load1 t21 (fun t22 w =>
  M.bin .leq t22 (Value.int IntKind.i64 2) (fun t23 w =>
  M.gd t23 false (fun k w => M.fieldAddr 0 t6 k w) (fun t25 w =>
  M.gd t23 false (fun k w => M.load1 t25 k w) (fun t26 w =>
  M.gd t23 false (fun k w => M.bin .leq t26 (Value.int IntKind.i64 2) k w) (fun t27 w =>
  M.pick t23 (Value.bool true) t27 (fun t28 w =>
  M.indexSl 1 t11 (s1.getD 1 undef) (fun t29 w =>
  M.store 1 t29 t28 (fun _ w =>
  M.indexSl 1 t11 (s1.getD 1 undef) (fun t32 w =>
  M.load1 t32 (fun t33 w =>
  M.not t33 (fun t34 w =>
  M.cond t34
  (M.buildSlice 3 1 #[.int .i64 0] 1 [(0, (s1.getD 1 undef))] (fun t37 w =>
  M.append 3 1 8 #[.int .i64 0] (s1.getD 0 undef) t37 (fun t38 w =>
  K2 [t38] w) w) w)
  (K2 [(s1.getD 0 undef)] w)) w) w) w) w) w) w) w) w) w) w) w) w) w) w) w) w) (fun s2 w => ∀ _ : List Value,
  M.bin .add (s1.getD 1 undef) (Value.int IntKind.i64 1) (fun t39 w =>
  K1 [(s2.getD 0 undef), t39] w) w) w)
  (M.call Try.prog 12 #[(s1.getD 0 undef), (.func (Fn.func 13) #[] #[t1])] (fun t42 w =>
  M.len (s1.getD 0 undef) (fun t45 w =>
  M.len (s1.getD 0 undef) (fun t47 w =>
  M.bin .quo t47 (Value.int IntKind.i64 2) (fun t48 w =>
  M.bin .sub t45 t48 (fun t49 w =>
  M.slice 1 (s1.getD 0 undef) none (some t49) none (fun t50 w =>
  M.len t50 (fun t51 w =>
  M.loop [(Value.int IntKind.i64 0)] (fun s3 K3 w => ∀ _ : List Value,
  M.bin .lss (s3.getD 0 undef) t51 (fun t53 w =>
  M.cond t53
  (M.indexSl 1 t50 (s3.getD 0 undef) (fun t54 w =>
  M.load1 t54 (fun t55 w =>
  M.indexSl 1 t11 t55 (fun t58 w =>
  M.store 1 t58 (Value.bool true) (fun _ w =>
  M.bin .add (s3.getD 0 undef) (Value.int IntKind.i64 1) (fun t59 w =>
  K3 [t59] w) w) w) w) w) w)
  (R t11 w)) w) w) w) w) w) w) w) w) w)) w) w) w) w) w) w) w) w
theorem ok9 (x0 : Value) (R : Kt) (w : World) (h : sh9 x0 R w) : Ret Try.prog 9 #[x0] w R :=
  ret_mk <| calls_of_comp mixed (c := Try.f9.body.getD .skip) (args := [x0]) (rs := [(ResultVar.tmp 2)]) (Ann.seq Ann.text (Ann.seq Ann.text (Ann.seq Ann.text (Ann.seq (Ann.seq Ann.text (Ann.block (Ann.loop [4, 14] [5, 6, 15, 16, 17, 18, 19, 20, 21, 22, 23, 24, 25, 26, 27, 28, 29, 30, 31, 32, 33, 34, 35, 36, 37, 38, 39] (Ann.seq Ann.text (Ann.seq (Ann.cond Ann.leaf Ann.leaf) (Ann.seq (Ann.jblock [4] [5, 6, 16, 17, 18, 19, 20, 21, 22, 23, 24, 25, 26, 27, 28, 29, 30, 31, 32, 33, 34, 35, 36, 37, 38] (Ann.seq Ann.text (Ann.seq Ann.text (Ann.seq Ann.text (Ann.cond Ann.text Ann.leaf))))) Ann.text)))))) (Ann.seq Ann.text (Ann.seq (Ann.seq Ann.text (Ann.block (Ann.loop [52] [8, 53, 54, 55, 56, 57, 58, 59] (Ann.seq Ann.text (Ann.seq (Ann.cond Ann.leaf Ann.leaf) (Ann.seq (Ann.block (Ann.seq Ann.text Ann.text)) Ann.text)))))) (Ann.seq Ann.text Ann.leaf)))))))
    Try.func9 (by kernel_rfl) (by kernel_rfl)
    (Eq.mp (by kernel_rfl) h)
/-! breakwater/breakwaterref13.Better: function 7 -/
def sh7 (x0 x1 : Value) (R : Kt) (w : World) : Prop :=
  M.new 26 (Value.cells x0) (fun t2 w =>
  M.new 26 (Value.cells x1) (fun t3 w =>
  M.fieldAddr 1 t2 (fun t5 w =>
  M.load1 t5 (fun t6 w =>
  M.fieldAddr 1 t3 (fun t7 w =>
  M.load1 t7 (fun t8 w =>
  M.bin .neq t6 t8 (fun t9 w =>
  M.cond t9
  (M.fieldAddr 1 t2 (fun t10 w =>
  M.load1 t10 (fun t11 w =>
  M.fieldAddr 1 t3 (fun t12 w =>
  M.load1 t12 (fun t13 w =>
  M.bin .lss t11 t13 (fun t14 w =>
  R t14 w) w) w) w) w) w)
  (M.fieldAddr 2 t2 (fun t15 w =>
  M.load1 t15 (fun t16 w =>
  M.fieldAddr 2 t3 (fun t17 w =>
  M.load1 t17 (fun t18 w =>
  M.bin .neq t16 t18 (fun t19 w =>
  M.cond t19
  (M.fieldAddr 2 t2 (fun t20 w =>
  M.load1 t20 (fun t21 w =>
  M.fieldAddr 2 t3 (fun t22 w =>
  M.load1 t22 (fun t23 w =>
  M.bin .gtr t21 t23 (fun t24 w =>
  R t24 w) w) w) w) w) w)
  (M.fieldAddr 0 t2 (fun t25 w =>
  M.load1 t25 (fun t26 w =>
  M.fieldAddr 0 t3 (fun t27 w =>
  M.load1 t27 (fun t28 w =>
  M.bin .lss t26 t28 (fun t29 w =>
  R t29 w) w) w) w) w) w)) w) w) w) w) w)) w) w) w) w) w) w) w
theorem ok7 (x0 x1 : Value) (R : Kt) (w : World) (h : sh7 x0 x1 R w) : Ret Try.prog 7 #[x0, x1] w R :=
  ret_mk <| calls_of_comp mixed (c := Try.f7.body.getD .skip) (args := [x0, x1]) (rs := [(ResultVar.tmp 4)]) (Ann.seq Ann.text (Ann.seq (Ann.seq Ann.text (Ann.cond (Ann.seq Ann.text Ann.leaf) Ann.leaf)) (Ann.seq (Ann.seq Ann.text (Ann.cond (Ann.seq Ann.text Ann.leaf) Ann.leaf)) (Ann.seq Ann.text Ann.leaf))))
    Try.func7 (by kernel_rfl) (by kernel_rfl)
    (Eq.mp (by kernel_rfl) h)
/-! breakwater/breakwaterref13.sure: function 14 -/
def sh14 (x0 : Value) (R : Kt) (w : World) : Prop :=
  M.new 26 (Value.cells x0) (fun t1 w =>
  M.fieldAddr 1 t1 (fun t3 w =>
  M.load1 t3 (fun t4 w =>
  M.bin .leq t4 (Value.int IntKind.i64 2) (fun t5 w =>
  M.gd t5 false (fun k w => M.fieldAddr 0 t1 k w) (fun t7 w =>
  M.gd t5 false (fun k w => M.load1 t7 k w) (fun t8 w =>
  M.gd t5 false (fun k w => M.bin .leq t8 (Value.int IntKind.i64 2) k w) (fun t9 w =>
  M.pick t5 (Value.bool true) t9 (fun t10 w =>
  R t10 w) w) w) w) w) w) w) w) w
theorem ok14 (x0 : Value) (R : Kt) (w : World) (h : sh14 x0 R w) : Ret Try.prog 14 #[x0] w R :=
  ret_mk <| calls_of_comp mixed (c := Try.f14.body.getD .skip) (args := [x0]) (rs := [(ResultVar.tmp 2)]) (Ann.seq Ann.text (Ann.seq Ann.text Ann.leaf))
    Try.func14 (by kernel_rfl) (by kernel_rfl)
    (Eq.mp (by kernel_rfl) h)
/-! breakwater/breakwaterref13.Keep: function 10 -/
def sh10 (x0 : Value) (R : Kt) (w : World) : Prop :=
  M.len x0 (fun t10 w =>
  M.makeSlice 4 1 1 #[.bool false] t10 t10 (fun t11 w =>
  M.loop [(Value.int IntKind.i64 0), (Value.int IntKind.i64 0)] (fun s1 K1 w => ∀ _ : List Value,
  M.len x0 (fun t14 w =>
  M.bin .lss (s1.getD 1 undef) t14 (fun t15 w =>
  M.cond t15
  (M.share (fun K2 w =>
  M.indexSl 3 x0 (s1.getD 1 undef) (fun t20 w =>
  M.loadA 3 t20 (fun t21 w =>
  M.call Try.prog 14 #[t21] (fun t22 w =>
  M.not t22 (fun t23 w =>
  M.cond t23
  (M.bin .add (s1.getD 0 undef) (Value.int IntKind.i64 1) (fun t25 w =>
  K2 [t25] w) w)
  (K2 [(s1.getD 0 undef)] w)) w) w) w) w) (fun s2 w => ∀ _ : List Value,
  M.bin .add (s1.getD 1 undef) (Value.int IntKind.i64 1) (fun t17 w =>
  K1 [(s2.getD 0 undef), t17] w) w) w)
  (M.loop [(Value.int IntKind.i64 0)] (fun s3 K3 w => ∀ _ : List Value,
  M.len x0 (fun t28 w =>
  M.bin .lss (s3.getD 0 undef) t28 (fun t29 w =>
  M.cond t29
  (M.share (fun K4 w =>
  M.indexSl 3 x0 (s3.getD 0 undef) (fun t34 w =>
  M.loadA 3 t34 (fun t35 w =>
  M.call Try.prog 14 #[t35] (fun t36 w =>
  M.cond t36
  (M.indexSl 1 t11 (s3.getD 0 undef) (fun t39 w =>
  M.store 1 t39 (Value.bool true) (fun _ w =>
  K4 [] w) w) w)
  (M.loop [(Value.int IntKind.i64 0), (Value.int IntKind.i64 0)] (fun s5 K5 w => ∀ _ : List Value,
  M.len x0 (fun t42 w =>
  M.bin .lss (s5.getD 1 undef) t42 (fun t43 w =>
  M.cond t43
  (M.share (fun K6 w =>
  M.draw (fun w =>
  M.indexSl 3 x0 (s5.getD 1 undef) (fun t48 w =>
  M.loadA 3 t48 (fun t49 w =>
  M.call Try.prog 14 #[t49] (fun t50 w =>
  M.not t50 (fun t51 w =>
  M.gd t51 true (fun k w => k x0 w) (fun t53 w =>
  M.gd t51 true (fun k w => k (s5.getD 1 undef) w) (fun t54 w =>
  M.gd t51 true (fun k w => M.indexSl 3 t53 t54 k w) (fun t55 w =>
  M.gd t51 true (fun k w => M.loadA 3 t55 k w) (fun t56 w =>
  M.gd t51 true (fun k w => k x0 w) (fun t57 w =>
  M.gd t51 true (fun k w => k (s3.getD 0 undef) w) (fun t58 w =>
  M.gd t51 true (fun k w => M.indexSl 3 t57 t58 k w) (fun t59 w =>
  M.gd t51 true (fun k w => M.loadA 3 t59 k w) (fun t60 w =>
  M.gd t51 true (fun k w => M.call Try.prog 7 #[t56, t60] k w) (fun t61 w =>
  M.gd t51 true (fun k w => k t61 w) (fun t62 w =>
  M.gd t62 false (fun k w => k (s5.getD 1 undef) w) (fun t63 w =>
  M.gd t62 false (fun k w => k (s3.getD 0 undef) w) (fun t64 w =>
  M.gd t62 false (fun k w => M.bin .lss t63 t64 k w) (fun t65 w =>
  M.gd t62 false (fun k w => k t65 w) (fun t66 w =>
  M.gd t66 true (fun k w => k x0 w) (fun t67 w =>
  M.gd t66 true (fun k w => k (s3.getD 0 undef) w) (fun t68 w =>
  M.gd t66 true (fun k w => M.indexSl 3 t67 t68 k w) (fun t69 w =>
  M.gd t66 true (fun k w => M.loadA 3 t69 k w) (fun t70 w =>
  M.gd t66 true (fun k w => k x0 w) (fun t71 w =>
  M.gd t66 true (fun k w => k (s5.getD 1 undef) w) (fun t72 w =>
  M.gd t66 true (fun k w => M.indexSl 3 t71 t72 k w) (fun t73 w =>
  M.gd t66 true (fun k w => M.loadA 3 t73 k w) (fun t74 w =>
  M.gd t66 true (fun k w => M.call Try.prog 7 #[t70, t74] k w) (fun t75 w =>
  M.gd t66 true (fun k w => M.not t75 k w) (fun t76 w =>
  M.gd t62 false (fun k w => M.pick t66 t76 (Value.bool false) k w) (fun t77 w =>
  M.gd t51 true (fun k w => M.pick t62 (Value.bool true) t77 k w) (fun t78 w =>
  M.pick t51 t78 (Value.bool false) (fun t79 w =>
  M.cond t79
  (M.bin .add (s5.getD 0 undef) (Value.int IntKind.i64 1) (fun t81 w =>
  K6 [t81] w) w)
  (K6 [(s5.getD 0 undef)] w)) w) w) w) w) w) w) w) w) w) w) w) w) w) w) w) w) w) w) w) w) w) w) w) w) w) w) w) w) w) w) w) w) (fun s6 w => ∀ _ : List Value,
  M.bin .add (s5.getD 1 undef) (Value.int IntKind.i64 1) (fun t45 w =>
  K5 [(s6.getD 0 undef), t45] w) w) w)
  (M.bin .add (s1.getD 0 undef) (Value.int IntKind.i64 1) (fun t86 w =>
  M.bin .quo t86 (Value.int IntKind.i64 2) (fun t87 w =>
  M.bin .lss (s5.getD 0 undef) t87 (fun t88 w =>
  M.indexSl 1 t11 (s3.getD 0 undef) (fun t89 w =>
  M.store 1 t89 t88 (fun _ w =>
  K4 [] w) w) w) w) w) w)) w) w) w)) w) w) w) (fun s4 w => ∀ _ : List Value,
  M.bin .add (s3.getD 0 undef) (Value.int IntKind.i64 1) (fun t31 w =>
  K3 [t31] w) w) w)
  (R t11 w)) w) w) w)) w) w) w) w) w
theorem ok10 (x0 : Value) (R : Kt) (w : World) (h : sh10 x0 R w) : Ret Try.prog 10 #[x0] w R :=
  ret_mk <| calls_of_comp mixed (c := Try.f10.body.getD .skip) (args := [x0]) (rs := [(ResultVar.tmp 2)]) (Ann.seq Ann.text (Ann.seq Ann.text (Ann.seq Ann.text (Ann.seq (Ann.seq Ann.text (Ann.block (Ann.loop [4, 5] [12, 13, 14, 15, 16, 17, 18, 19, 20, 21, 22, 23, 24, 25] (Ann.seq (Ann.seq Ann.text (Ann.cond Ann.leaf Ann.leaf)) (Ann.seq (Ann.jblock [4] [18, 19, 20, 21, 22, 23, 24, 25] (Ann.seq Ann.text (Ann.cond Ann.text Ann.leaf))) Ann.text))))) (Ann.seq (Ann.seq Ann.text (Ann.block (Ann.loop [6] [7, 8, 26, 27, 28, 29, 30, 31, 32, 33, 34, 35, 36, 37, 38, 39, 40, 41, 42, 43, 44, 45, 46, 47, 48, 49, 50, 51, 52, 53, 54, 55, 56, 57, 58, 59, 60, 61, 62, 63, 64, 65, 66, 67, 68, 69, 70, 71, 72, 73, 74, 75, 76, 77, 78, 79, 80, 81, 82, 83, 84, 85, 86, 87, 88, 89] (Ann.seq (Ann.seq Ann.text (Ann.cond Ann.leaf Ann.leaf)) (Ann.seq (Ann.jblock [] [7, 8, 32, 33, 34, 35, 36, 37, 38, 39, 40, 41, 42, 43, 44, 45, 46, 47, 48, 49, 50, 51, 52, 53, 54, 55, 56, 57, 58, 59, 60, 61, 62, 63, 64, 65, 66, 67, 68, 69, 70, 71, 72, 73, 74, 75, 76, 77, 78, 79, 80, 81, 82, 83, 84, 85, 86, 87, 88, 89] (Ann.seq (Ann.seq Ann.text (Ann.cond (Ann.seq Ann.text Ann.leaf) Ann.leaf)) (Ann.seq Ann.text (Ann.seq (Ann.seq Ann.text (Ann.block (Ann.loop [7, 8] [40, 41, 42, 43, 44, 45, 46, 47, 48, 49, 50, 51, 52, 53, 54, 55, 56, 57, 58, 59, 60, 61, 62, 63, 64, 65, 66, 67, 68, 69, 70, 71, 72, 73, 74, 75, 76, 77, 78, 79, 80, 81] (Ann.seq (Ann.seq Ann.text (Ann.cond Ann.leaf Ann.leaf)) (Ann.seq (Ann.jblock [7] [46, 47, 48, 49, 50, 51, 52, 53, 54, 55, 56, 57, 58, 59, 60, 61, 62, 63, 64, 65, 66, 67, 68, 69, 70, 71, 72, 73, 74, 75, 76, 77, 78, 79, 80, 81] (Ann.seq (Ann.draw (Sch.take 0 (Sch.take 1 (Sch.take 2 (Sch.take 3 (Sch.one 4 (Sch.take 5 (Sch.take 6 (Sch.take 7 (Sch.take 8 (Sch.take 9 (Sch.take 10 (Sch.take 11 (Sch.take 12 (Sch.take 13 (Sch.take 14 (Sch.one 15 (Sch.take 16 (Sch.take 17 (Sch.take 18 (Sch.take 19 (Sch.take 20 (Sch.take 21 (Sch.take 22 (Sch.take 23 (Sch.take 24 (Sch.take 25 (Sch.take 26 (Sch.take 27 (Sch.take 28 (Sch.one 29 (Sch.take 30 (Sch.take 31 (Sch.take 32 (Sch.take 33 Sch.done))))))))))))))))))))))))))))))))))) (Ann.cond Ann.text Ann.leaf))) Ann.text))))) Ann.text)))) Ann.text))))) (Ann.seq Ann.text Ann.leaf))))))
    Try.func10 (by kernel_rfl) (by kernel_rfl)
    (Eq.mp (by kernel_rfl) h)
/-! breakwater/breakwaterref04.Bools: function 8 -/
def sh8 (x0 x1 : Value) (R : Kt) (w : World) : Prop :=
  M.len x0 (fun t7 w =>
  M.len x1 (fun t9 w =>
  M.bin .neq t7 t9 (fun t10 w =>
  M.cond t10
  (R (Value.bool false) w)
  (M.loop [(Value.int IntKind.i64 0)] (fun s1 K1 w => ∀ _ : List Value,
  M.len x0 (fun t13 w =>
  M.bin .lss (s1.getD 0 undef) t13 (fun t14 w =>
  M.cond t14
  (M.draw (fun w =>
  M.indexSl 1 x0 (s1.getD 0 undef) (fun t19 w =>
  M.load1 t19 (fun t20 w =>
  M.indexSl 1 x1 (s1.getD 0 undef) (fun t23 w =>
  M.load1 t23 (fun t24 w =>
  M.eqB true t20 t24 (fun t25 w =>
  M.cond t25
  (R (Value.bool false) w)
  (M.bin .add (s1.getD 0 undef) (Value.int IntKind.i64 1) (fun t16 w =>
  K1 [t16] w) w)) w) w) w) w) w) w)
  (R (Value.bool true) w)) w) w) w)) w) w) w
theorem ok8 (x0 x1 : Value) (R : Kt) (w : World) (h : sh8 x0 x1 R w) : Ret Try.prog 8 #[x0, x1] w R :=
  ret_mk <| calls_of_comp mixed (c := Try.f8.body.getD .skip) (args := [x0, x1]) (rs := [(ResultVar.tmp 4)]) (Ann.seq Ann.text (Ann.seq (Ann.seq Ann.text (Ann.cond (Ann.seq Ann.text Ann.leaf) Ann.leaf)) (Ann.seq (Ann.seq Ann.text (Ann.block (Ann.loop [5] [4, 11, 12, 13, 14, 15, 16, 17, 18, 19, 20, 21, 22, 23, 24, 25] (Ann.seq (Ann.seq Ann.text (Ann.cond Ann.leaf Ann.leaf)) (Ann.seq (Ann.block (Ann.seq (Ann.draw (Sch.take 0 (Sch.take 1 (Sch.take 2 (Sch.take 3 (Sch.take 4 (Sch.take 5 (Sch.take 6 (Sch.take 7 (Sch.take 8 Sch.done)))))))))) (Ann.cond (Ann.seq Ann.text Ann.leaf) Ann.leaf))) Ann.text))))) (Ann.seq Ann.text Ann.leaf))))
    Try.func8 (by kernel_rfl) (by kernel_rfl)
    (Eq.mp (by kernel_rfl) h)

abbrev ptr1 (p : Nat) : Value := .pointer (some ⟨p, 0, none⟩)
abbrev encL (x : Lr) : Value := .agg ⟨x.cells⟩
theorem lr_one (x : Lr) : ∀ y ∈ x.cells, y.oneCell' = true := by
  intro y hy
  simp only [Lr.cells, List.mem_cons, List.not_mem_nil, or_false] at hy
  rcases hy with rfl | rfl | rfl <;> rfl
theorem M.loadL_i {k : Kt} {w : World} {b o : Nat} {x : Lr} (hc : ∀ (j : Nat) v, x.cells[j]? = some v → w.cell? ⟨b, o + j, none⟩ = some v) (h : k (encL x) w) : M.loadA 3 (.pointer (some ⟨b, o, none⟩)) k w := by
  have := rdL_cells (w := w) (b := b) (o := o) (cs := x.cells) 3 0 (fun j hj => hc j _ (List.getElem?_eq_getElem hj)) rfl
  unfold M.loadA
  simp only [this]
  exact h
def cmpI (x y : Int) : Int := if x < y then -1 else if y < x then 1 else 0
theorem nan_ret (x : Int) (w : World) : Ret Try.prog 18 #[vi x] w (fun r w' => r = .bool false ∧ w' = w) := by
  refine ok18 _ _ _ ?_
  unfold sh18
  (repeat (first|refine ja ?_|refine jb ?_|refine jc ?_|refine jd ?_|refine je ?_|refine jf ?_|refine jg ?_|refine jh ?_|refine ji ?_|refine jj ?_|refine jk ?_|refine jl ?_|refine jm ?_|refine jn ?_|refine jo ?_|refine jp ?_|refine jq ?_|refine jr ?_|refine js ?_|refine jt ?_|refine ju ?_|refine jv ?_|refine jw ?_|refine jx ?_|refine jy ?_|refine jz ?_|refine jA ?_|refine jB ?_|refine jC ?_|refine jD ?_|refine jE ?_|refine jF ?_|refine jG ?_|refine jH ?_|refine jI ?_|refine jJ ?_|refine jK ?_|refine jL ?_|refine jM (by assumption) ?_|refine jN (by assumption) rfl ?_|refine jO (by assumption) ?_|refine jP (by assumption) rfl ?_|refine jQ ?_|refine jR ?_|refine jS ?_|refine jT ?_|refine jU (by assumption) rfl ?_))
  exact ⟨rfl, rfl⟩
theorem compare_ret (x y : Int) (w : World) : Ret Try.prog 16 #[vi x, vi y] w (fun r w' => r = vi (cmpI x y) ∧ w' = w) := by
  refine ok16 _ _ _ _ ?_
  unfold sh16
  refine M.call_i (nan_ret x w) ?_; rintro _ w1 ⟨rfl, rfl⟩
  refine M.call_i (nan_ret y w1) ?_; rintro _ w2 ⟨rfl, rfl⟩
  unfold cmpI
  by_cases h1 : x < y
  · rw [if_pos h1]
    (repeat (first|refine ja ?_|refine jb ?_|refine jc ?_|refine jd ?_|refine je ?_|refine jf ?_|refine jg ?_|refine jh ?_|refine ji ?_|refine jj ?_|refine jk ?_|refine jl ?_|refine jm ?_|refine jn ?_|refine jo ?_|refine jp ?_|refine jq ?_|refine jr ?_|refine js ?_|refine jt ?_|refine ju ?_|refine jv ?_|refine jw ?_|refine jx ?_|refine jy ?_|refine jz ?_|refine jA ?_|refine jB ?_|refine jC ?_|refine jD ?_|refine jE ?_|refine jF ?_|refine jG ?_|refine jH ?_|refine jI ?_|refine jJ ?_|refine jK ?_|refine jL ?_|refine jM (by assumption) ?_|refine jN (by assumption) rfl ?_|refine jO (by assumption) ?_|refine jP (by assumption) rfl ?_|refine jQ ?_|refine jR ?_|refine jS ?_|refine jT ?_|refine jU (by assumption) rfl ?_))
    exact ⟨rfl, rfl⟩
  · rw [if_neg h1]
    by_cases h2 : y < x
    · rw [if_pos h2]
      (repeat (first|refine ja ?_|refine jb ?_|refine jc ?_|refine jd ?_|refine je ?_|refine jf ?_|refine jg ?_|refine jh ?_|refine ji ?_|refine jj ?_|refine jk ?_|refine jl ?_|refine jm ?_|refine jn ?_|refine jo ?_|refine jp ?_|refine jq ?_|refine jr ?_|refine js ?_|refine jt ?_|refine ju ?_|refine jv ?_|refine jw ?_|refine jx ?_|refine jy ?_|refine jz ?_|refine jA ?_|refine jB ?_|refine jC ?_|refine jD ?_|refine jE ?_|refine jF ?_|refine jG ?_|refine jH ?_|refine jI ?_|refine jJ ?_|refine jK ?_|refine jL ?_|refine jM (by assumption) ?_|refine jN (by assumption) rfl ?_|refine jO (by assumption) ?_|refine jP (by assumption) rfl ?_|refine jQ ?_|refine jR ?_|refine jS ?_|refine jT ?_|refine jU (by assumption) rfl ?_))
      exact ⟨rfl, rfl⟩
    · rw [if_neg h2]
      (repeat (first|refine ja ?_|refine jb ?_|refine jc ?_|refine jd ?_|refine je ?_|refine jf ?_|refine jg ?_|refine jh ?_|refine ji ?_|refine jj ?_|refine jk ?_|refine jl ?_|refine jm ?_|refine jn ?_|refine jo ?_|refine jp ?_|refine jq ?_|refine jr ?_|refine js ?_|refine jt ?_|refine ju ?_|refine jv ?_|refine jw ?_|refine jx ?_|refine jy ?_|refine jz ?_|refine jA ?_|refine jB ?_|refine jC ?_|refine jD ?_|refine jE ?_|refine jF ?_|refine jG ?_|refine jH ?_|refine jI ?_|refine jJ ?_|refine jK ?_|refine jL ?_|refine jM (by assumption) ?_|refine jN (by assumption) rfl ?_|refine jO (by assumption) ?_|refine jP (by assumption) rfl ?_|refine jQ ?_|refine jR ?_|refine jS ?_|refine jT ?_|refine jU (by assumption) rfl ?_))
      exact ⟨rfl, rfl⟩
def orI (xs : List Int) : Int := ((xs.find? (fun x => decide (x ≠ 0)))).getD 0
theorem orI_three (a b c : Int) : orI [a, b, c] = if a ≠ 0 then a else if b ≠ 0 then b else c := by
  unfold orI
  by_cases h1 : a = 0
  · by_cases h2 : b = 0
    · by_cases h3 : c = 0 <;> simp [h1, h2, h3]
    · simp [h1, h2]
  · simp [h1]
theorem or_ret {w : World} {D : Nat → Prop} {v : Value} {xs : List Int} (h : LV vi w D v xs) (hf : Few xs.length) : Ret Try.prog 15 #[v] w (fun r w' => r = vi (orI xs) ∧ w' = w) := by
  obtain ⟨A, c, rfl, hr, _⟩ := h
  have hfx : xs.length ≤ 100000000000 := hf
  refine ok15 _ _ _ ?_
  unfold sh15
  (repeat (first|refine ja ?_|refine jb ?_|refine jc ?_|refine jd ?_|refine je ?_|refine jf ?_|refine jg ?_|refine jh ?_|refine ji ?_|refine jj ?_|refine jk ?_|refine jl ?_|refine jm ?_|refine jn ?_|refine jo ?_|refine jp ?_|refine jq ?_|refine jr ?_|refine js ?_|refine jt ?_|refine ju ?_|refine jv ?_|refine jw ?_|refine jx ?_|refine jy ?_|refine jz ?_|refine jA ?_|refine jB ?_|refine jC ?_|refine jD ?_|refine jE ?_|refine jF ?_|refine jG ?_|refine jH ?_|refine jI ?_|refine jJ ?_|refine jK ?_|refine jL ?_|refine jM (by assumption) ?_|refine jN (by assumption) rfl ?_|refine jO (by assumption) ?_|refine jP (by assumption) rfl ?_|refine jQ ?_|refine jR ?_|refine jS ?_|refine jT ?_|refine jU (by assumption) rfl ?_))
  refine M.loop_i (σ := Nat) (fun i vals w' => vals = [vi i] ∧ i ≤ xs.length ∧ w' = w ∧ orI xs = orI (xs.drop i)) (fun i => xs.length - i) 0 ⟨rfl, by omega, rfl, rfl⟩ ?_
  rintro i vals w1 K ⟨rfl, hi, rfl, he⟩ hK _
  simp only [List.getD_cons_zero, List.getD_cons_succ]
  by_cases hlt : i < xs.length
  · obtain ⟨x, hx⟩ : ∃ x, xs[i]? = some x := ⟨_, List.getElem?_eq_getElem hlt⟩
    have ed : xs.drop i = x :: xs.drop (i + 1) := by
      rw [List.drop_eq_getElem_cons hlt]
      congr 1
      rw [List.getElem?_eq_getElem hlt] at hx; exact Option.some.inj hx
    rw [ed] at he
    (repeat (first|refine ja ?_|refine jb ?_|refine jc ?_|refine jd ?_|refine je ?_|refine jf ?_|refine jg ?_|refine jh ?_|refine ji ?_|refine jj ?_|refine jk ?_|refine jl ?_|refine jm ?_|refine jn ?_|refine jo ?_|refine jp ?_|refine jq ?_|refine jr ?_|refine js ?_|refine jt ?_|refine ju ?_|refine jv ?_|refine jw ?_|refine jx ?_|refine jy ?_|refine jz ?_|refine jA ?_|refine jB ?_|refine jC ?_|refine jD ?_|refine jE ?_|refine jF ?_|refine jG ?_|refine jH ?_|refine jI ?_|refine jJ ?_|refine jK ?_|refine jL ?_|refine jM (by assumption) ?_|refine jN (by assumption) rfl ?_|refine jO (by assumption) ?_|refine jP (by assumption) rfl ?_|refine jQ ?_|refine jR ?_|refine jS ?_|refine jT ?_|refine jU (by assumption) rfl ?_))
    refine M.idxLV_i hr rfl (by omega) (by omega) (x := x) (by simpa using hx) (fun bb oo hA hcc => ?_)
    by_cases h0 : x = 0
    · (repeat (first|refine ja ?_|refine jb ?_|refine jc ?_|refine jd ?_|refine je ?_|refine jf ?_|refine jg ?_|refine jh ?_|refine ji ?_|refine jj ?_|refine jk ?_|refine jl ?_|refine jm ?_|refine jn ?_|refine jo ?_|refine jp ?_|refine jq ?_|refine jr ?_|refine js ?_|refine jt ?_|refine ju ?_|refine jv ?_|refine jw ?_|refine jx ?_|refine jy ?_|refine jz ?_|refine jA ?_|refine jB ?_|refine jC ?_|refine jD ?_|refine jE ?_|refine jF ?_|refine jG ?_|refine jH ?_|refine jI ?_|refine jJ ?_|refine jK ?_|refine jL ?_|refine jM (by assumption) ?_|refine jN (by assumption) rfl ?_|refine jO (by assumption) ?_|refine jP (by assumption) rfl ?_|refine jQ ?_|refine jR ?_|refine jS ?_|refine jT ?_|refine jU (by assumption) rfl ?_))
      refine hK (i + 1) _ _ (by omega) ⟨rfl, by omega, rfl, ?_⟩
      rw [he]; unfold orI; simp [h0]
    · (repeat (first|refine ja ?_|refine jb ?_|refine jc ?_|refine jd ?_|refine je ?_|refine jf ?_|refine jg ?_|refine jh ?_|refine ji ?_|refine jj ?_|refine jk ?_|refine jl ?_|refine jm ?_|refine jn ?_|refine jo ?_|refine jp ?_|refine jq ?_|refine jr ?_|refine js ?_|refine jt ?_|refine ju ?_|refine jv ?_|refine jw ?_|refine jx ?_|refine jy ?_|refine jz ?_|refine jA ?_|refine jB ?_|refine jC ?_|refine jD ?_|refine jE ?_|refine jF ?_|refine jG ?_|refine jH ?_|refine jI ?_|refine jJ ?_|refine jK ?_|refine jL ?_|refine jM (by assumption) ?_|refine jN (by assumption) rfl ?_|refine jO (by assumption) ?_|refine jP (by assumption) rfl ?_|refine jQ ?_|refine jR ?_|refine jS ?_|refine jT ?_|refine jU (by assumption) rfl ?_))
      refine ⟨?_, rfl⟩
      rw [he]; unfold orI; simp [h0]
  · (repeat (first|refine ja ?_|refine jb ?_|refine jc ?_|refine jd ?_|refine je ?_|refine jf ?_|refine jg ?_|refine jh ?_|refine ji ?_|refine jj ?_|refine jk ?_|refine jl ?_|refine jm ?_|refine jn ?_|refine jo ?_|refine jp ?_|refine jq ?_|refine jr ?_|refine js ?_|refine jt ?_|refine ju ?_|refine jv ?_|refine jw ?_|refine jx ?_|refine jy ?_|refine jz ?_|refine jA ?_|refine jB ?_|refine jC ?_|refine jD ?_|refine jE ?_|refine jF ?_|refine jG ?_|refine jH ?_|refine jI ?_|refine jJ ?_|refine jK ?_|refine jL ?_|refine jM (by assumption) ?_|refine jN (by assumption) rfl ?_|refine jO (by assumption) ?_|refine jP (by assumption) rfl ?_|refine jQ ?_|refine jR ?_|refine jS ?_|refine jT ?_|refine jU (by assumption) rfl ?_))
    refine ⟨?_, rfl⟩
    rw [he, List.drop_eq_nil_of_le (by omega)]; rfl
def ordI (a b : Lr) : Int := orI [cmpI a.gl b.gl, cmpI b.ac a.ac, cmpI a.sz b.sz]
theorem ord_neg (a b : Lr) : decide (ordI a b < 0) = betB a b := by
  unfold ordI
  rw [orI_three]
  unfold cmpI betB
  by_cases h1 : a.gl < b.gl
  · have : ¬ a.gl = b.gl := by omega
    simp [h1, this]
  · by_cases h2 : b.gl < a.gl
    · have : ¬ a.gl = b.gl := by omega
      simp [h1, h2, this]
    · have h3 : a.gl = b.gl := by omega
      by_cases h4 : b.ac < a.ac
      · have : ¬ a.ac = b.ac := by omega
        simp [h3, h4, this]
      · by_cases h5 : a.ac < b.ac
        · have : ¬ a.ac = b.ac := by omega
          simp [h3, h4, h5, this]
        · have h6 : a.ac = b.ac := by omega
          by_cases h7 : a.sz < b.sz
          · simp [h3, h6, h7]
          · by_cases h8 : b.sz < a.sz <;> simp [h3, h6, h7, h8]
theorem order_ret (a b : Lr) (w : World) : Ret Try.prog 11 #[encL a, encL b] w (fun r w' => r = vi (ordI a b) ∧ Keep w w' No) := by
  refine ok11 _ _ _ _ ?_
  unfold sh11
  refine M.new_i (l := a.cells) (fun w1 b1 k1 s1 => ?_)
  refine M.new_i (l := b.cells) (fun w2 b2 k2 s2 => ?_)
  have kd := Keep.drew w2 No
  have b1 : Blk w2.drew w.heap.size [vi a.sz, vi a.gl, vi a.ac] := (b1.keep k2 (fun h => h)).keep kd (fun h => h)
  have b2 : Blk w2.drew w1.heap.size [vi b.sz, vi b.gl, vi b.ac] := b2.keep kd (fun h => h)
  have k02 := (k1.trans k2 (fun _ _ h => h)).trans kd (fun _ _ h => h)
  (repeat (first|refine ja ?_|refine jb ?_|refine jc ?_|refine jd ?_|refine je ?_|refine jf ?_|refine jg ?_|refine jh ?_|refine ji ?_|refine jj ?_|refine jk ?_|refine jl ?_|refine jm ?_|refine jn ?_|refine jo ?_|refine jp ?_|refine jq ?_|refine jr ?_|refine js ?_|refine jt ?_|refine ju ?_|refine jv ?_|refine jw ?_|refine jx ?_|refine jy ?_|refine jz ?_|refine jA ?_|refine jB ?_|refine jC ?_|refine jD ?_|refine jE ?_|refine jF ?_|refine jG ?_|refine jH ?_|refine jI ?_|refine jJ ?_|refine jK ?_|refine jL ?_|refine jM (by assumption) ?_|refine jN (by assumption) rfl ?_|refine jO (by assumption) ?_|refine jP (by assumption) rfl ?_|refine jQ ?_|refine jR ?_|refine jS ?_|refine jT ?_|refine jU (by assumption) rfl ?_))
  refine M.call_i (compare_ret a.gl b.gl w2.drew) ?_; rintro _ w3 ⟨rfl, rfl⟩
  refine M.stB_i b2 rfl ?_
  refine M.stB_i b1 rfl ?_
  refine M.stB_i b1 rfl ?_
  refine M.stB_i b2 rfl ?_
  refine M.call_i (compare_ret b.ac a.ac w2.drew) ?_; rintro _ w4 ⟨rfl, rfl⟩
  refine M.stB_i b2 rfl ?_
  refine M.stB_i b1 rfl ?_
  refine M.call_i (compare_ret a.sz b.sz w2.drew) ?_; rintro _ w5 ⟨rfl, rfl⟩
  refine M.buildSlice_i ([cmpI a.gl b.gl, cmpI b.ac a.ac, cmpI a.sz b.sz].map vi) (by kernel_rfl) (fun w6 b6 k6 s6 => ?_)
  refine M.call_i (or_ret (D := fun _ => True) (xs := [cmpI a.gl b.gl, cmpI b.ac a.ac, cmpI a.sz b.sz]) ⟨_, _, rfl, Row.of_blk' b6 trivial, Nat.le_refl _⟩ (by show 3 ≤ 100000000000; omega)) ?_; rintro _ w7 ⟨rfl, rfl⟩
  exact ⟨rfl, k02.trans k6 (fun _ _ h => h)⟩
theorem better_ret (a b : Lr) (w : World) : Ret Try.prog 6 #[encL a, encL b] w (fun r w' => r = .bool (betB a b) ∧ Keep w w' No) := by
  refine ok6 _ _ _ _ ?_
  unfold sh6
  refine M.new_i (l := a.cells) (fun w1 b1 k1 s1 => ?_)
  refine M.new_i (l := b.cells) (fun w2 b2 k2 s2 => ?_)
  refine M.loadAll_i (b1.keep k2 (fun h => h)) rfl ?_
  refine M.loadAll_i b2 rfl ?_
  refine M.call_i (order_ret a b w2) ?_; rintro _ w3 ⟨rfl, k3⟩
  refine M.lss_i ?_
  exact ⟨by rw [ord_neg], (k1.trans k2 (fun _ _ h => h)).trans k3 (fun _ _ h => h)⟩
theorem rbetter_ret (a b : Lr) (w : World) : Ret Try.prog 7 #[encL a, encL b] w (fun r w' => r = .bool (betB a b) ∧ Keep w w' No) := by
  refine ok7 _ _ _ _ ?_
  unfold sh7
  refine M.new_i (l := a.cells) (fun w1 b1 k1 s1 => ?_)
  refine M.new_i (l := b.cells) (fun w2 b2 k2 s2 => ?_)
  have b1 : Blk w2 w.heap.size [vi a.sz, vi a.gl, vi a.ac] := b1.keep k2 (fun h => h)
  have b2 : Blk w2 w1.heap.size [vi b.sz, vi b.gl, vi b.ac] := b2
  have k02 := k1.trans k2 (fun _ _ h => h)
  unfold betB
  by_cases h1 : a.gl = b.gl
  · rw [if_neg (by simpa using h1)]
    by_cases h2 : a.ac = b.ac
    · rw [if_neg (by simpa using h2)]
      by_cases h3 : a.sz < b.sz
      · rw [decide_eq_true h3]
        (repeat (first|refine ja ?_|refine jb ?_|refine jc ?_|refine jd ?_|refine je ?_|refine jf ?_|refine jg ?_|refine jh ?_|refine ji ?_|refine jj ?_|refine jk ?_|refine jl ?_|refine jm ?_|refine jn ?_|refine jo ?_|refine jp ?_|refine jq ?_|refine jr ?_|refine js ?_|refine jt ?_|refine ju ?_|refine jv ?_|refine jw ?_|refine jx ?_|refine jy ?_|refine jz ?_|refine jA ?_|refine jB ?_|refine jC ?_|refine jD ?_|refine jE ?_|refine jF ?_|refine jG ?_|refine jH ?_|refine jI ?_|refine jJ ?_|refine jK ?_|refine jL ?_|refine jM (by assumption) ?_|refine jN (by assumption) rfl ?_|refine jO (by assumption) ?_|refine jP (by assumption) rfl ?_|refine jQ ?_|refine jR ?_|refine jS ?_|refine jT ?_|refine jU (by assumption) rfl ?_))
        exact ⟨rfl, k02⟩
      · rw [decide_eq_false h3]
        (repeat (first|refine ja ?_|refine jb ?_|refine jc ?_|refine jd ?_|refine je ?_|refine jf ?_|refine jg ?_|refine jh ?_|refine ji ?_|refine jj ?_|refine jk ?_|refine jl ?_|refine jm ?_|refine jn ?_|refine jo ?_|refine jp ?_|refine jq ?_|refine jr ?_|refine js ?_|refine jt ?_|refine ju ?_|refine jv ?_|refine jw ?_|refine jx ?_|refine jy ?_|refine jz ?_|refine jA ?_|refine jB ?_|refine jC ?_|refine jD ?_|refine jE ?_|refine jF ?_|refine jG ?_|refine jH ?_|refine jI ?_|refine jJ ?_|refine jK ?_|refine jL ?_|refine jM (by assumption) ?_|refine jN (by assumption) rfl ?_|refine jO (by assumption) ?_|refine jP (by assumption) rfl ?_|refine jQ ?_|refine jR ?_|refine jS ?_|refine jT ?_|refine jU (by assumption) rfl ?_))
        exact ⟨rfl, k02⟩
    · rw [if_pos h2]
      by_cases h3 : b.ac < a.ac
      · rw [decide_eq_true h3]
        (repeat (first|refine ja ?_|refine jb ?_|refine jc ?_|refine jd ?_|refine je ?_|refine jf ?_|refine jg ?_|refine jh ?_|refine ji ?_|refine jj ?_|refine jk ?_|refine jl ?_|refine jm ?_|refine jn ?_|refine jo ?_|refine jp ?_|refine jq ?_|refine jr ?_|refine js ?_|refine jt ?_|refine ju ?_|refine jv ?_|refine jw ?_|refine jx ?_|refine jy ?_|refine jz ?_|refine jA ?_|refine jB ?_|refine jC ?_|refine jD ?_|refine jE ?_|refine jF ?_|refine jG ?_|refine jH ?_|refine jI ?_|refine jJ ?_|refine jK ?_|refine jL ?_|refine jM (by assumption) ?_|refine jN (by assumption) rfl ?_|refine jO (by assumption) ?_|refine jP (by assumption) rfl ?_|refine jQ ?_|refine jR ?_|refine jS ?_|refine jT ?_|refine jU (by assumption) rfl ?_))
        exact ⟨rfl, k02⟩
      · rw [decide_eq_false h3]
        (repeat (first|refine ja ?_|refine jb ?_|refine jc ?_|refine jd ?_|refine je ?_|refine jf ?_|refine jg ?_|refine jh ?_|refine ji ?_|refine jj ?_|refine jk ?_|refine jl ?_|refine jm ?_|refine jn ?_|refine jo ?_|refine jp ?_|refine jq ?_|refine jr ?_|refine js ?_|refine jt ?_|refine ju ?_|refine jv ?_|refine jw ?_|refine jx ?_|refine jy ?_|refine jz ?_|refine jA ?_|refine jB ?_|refine jC ?_|refine jD ?_|refine jE ?_|refine jF ?_|refine jG ?_|refine jH ?_|refine jI ?_|refine jJ ?_|refine jK ?_|refine jL ?_|refine jM (by assumption) ?_|refine jN (by assumption) rfl ?_|refine jO (by assumption) ?_|refine jP (by assumption) rfl ?_|refine jQ ?_|refine jR ?_|refine jS ?_|refine jT ?_|refine jU (by assumption) rfl ?_))
        exact ⟨rfl, k02⟩
  · rw [if_pos h1]
    by_cases h3 : a.gl < b.gl
    · rw [decide_eq_true h3]
      (repeat (first|refine ja ?_|refine jb ?_|refine jc ?_|refine jd ?_|refine je ?_|refine jf ?_|refine jg ?_|refine jh ?_|refine ji ?_|refine jj ?_|refine jk ?_|refine jl ?_|refine jm ?_|refine jn ?_|refine jo ?_|refine jp ?_|refine jq ?_|refine jr ?_|refine js ?_|refine jt ?_|refine ju ?_|refine jv ?_|refine jw ?_|refine jx ?_|refine jy ?_|refine jz ?_|refine jA ?_|refine jB ?_|refine jC ?_|refine jD ?_|refine jE ?_|refine jF ?_|refine jG ?_|refine jH ?_|refine jI ?_|refine jJ ?_|refine jK ?_|refine jL ?_|refine jM (by assumption) ?_|refine jN (by assumption) rfl ?_|refine jO (by assumption) ?_|refine jP (by assumption) rfl ?_|refine jQ ?_|refine jR ?_|refine jS ?_|refine jT ?_|refine jU (by assumption) rfl ?_))
      exact ⟨rfl, k02⟩
    · rw [decide_eq_false h3]
      (repeat (first|refine ja ?_|refine jb ?_|refine jc ?_|refine jd ?_|refine je ?_|refine jf ?_|refine jg ?_|refine jh ?_|refine ji ?_|refine jj ?_|refine jk ?_|refine jl ?_|refine jm ?_|refine jn ?_|refine jo ?_|refine jp ?_|refine jq ?_|refine jr ?_|refine js ?_|refine jt ?_|refine ju ?_|refine jv ?_|refine jw ?_|refine jx ?_|refine jy ?_|refine jz ?_|refine jA ?_|refine jB ?_|refine jC ?_|refine jD ?_|refine jE ?_|refine jF ?_|refine jG ?_|refine jH ?_|refine jI ?_|refine jJ ?_|refine jK ?_|refine jL ?_|refine jM (by assumption) ?_|refine jN (by assumption) rfl ?_|refine jO (by assumption) ?_|refine jP (by assumption) rfl ?_|refine jQ ?_|refine jR ?_|refine jS ?_|refine jT ?_|refine jU (by assumption) rfl ?_))
      exact ⟨rfl, k02⟩
theorem rsure_ret (a : Lr) (w : World) : Ret Try.prog 14 #[encL a] w (fun r w' => r = .bool (sureB a) ∧ Keep w w' No) := by
  refine ok14 _ _ _ ?_
  unfold sh14
  refine M.new_i (l := a.cells) (fun w1 b1 k1 s1 => ?_)
  have b1 : Blk w1 w.heap.size [vi a.sz, vi a.gl, vi a.ac] := b1
  unfold sureB
  by_cases h1 : a.gl ≤ 2
  · rw [decide_eq_true h1, Bool.true_or]
    (repeat (first|refine ja ?_|refine jb ?_|refine jc ?_|refine jd ?_|refine je ?_|refine jf ?_|refine jg ?_|refine jh ?_|refine ji ?_|refine jj ?_|refine jk ?_|refine jl ?_|refine jm ?_|refine jn ?_|refine jo ?_|refine jp ?_|refine jq ?_|refine jr ?_|refine js ?_|refine jt ?_|refine ju ?_|refine jv ?_|refine jw ?_|refine jx ?_|refine jy ?_|refine jz ?_|refine jA ?_|refine jB ?_|refine jC ?_|refine jD ?_|refine jE ?_|refine jF ?_|refine jG ?_|refine jH ?_|refine jI ?_|refine jJ ?_|refine jK ?_|refine jL ?_|refine jM (by assumption) ?_|refine jN (by assumption) rfl ?_|refine jO (by assumption) ?_|refine jP (by assumption) rfl ?_|refine jQ ?_|refine jR ?_|refine jS ?_|refine jT ?_|refine jU (by assumption) rfl ?_))
    exact ⟨rfl, k1⟩
  · rw [decide_eq_false h1, Bool.false_or]
    by_cases h2 : a.sz ≤ 2
    · rw [decide_eq_true h2]
      (repeat (first|refine ja ?_|refine jb ?_|refine jc ?_|refine jd ?_|refine je ?_|refine jf ?_|refine jg ?_|refine jh ?_|refine ji ?_|refine jj ?_|refine jk ?_|refine jl ?_|refine jm ?_|refine jn ?_|refine jo ?_|refine jp ?_|refine jq ?_|refine jr ?_|refine js ?_|refine jt ?_|refine ju ?_|refine jv ?_|refine jw ?_|refine jx ?_|refine jy ?_|refine jz ?_|refine jA ?_|refine jB ?_|refine jC ?_|refine jD ?_|refine jE ?_|refine jF ?_|refine jG ?_|refine jH ?_|refine jI ?_|refine jJ ?_|refine jK ?_|refine jL ?_|refine jM (by assumption) ?_|refine jN (by assumption) rfl ?_|refine jO (by assumption) ?_|refine jP (by assumption) rfl ?_|refine jQ ?_|refine jR ?_|refine jS ?_|refine jT ?_|refine jU (by assumption) rfl ?_))
      exact ⟨rfl, k1⟩
    · rw [decide_eq_false h2]
      (repeat (first|refine ja ?_|refine jb ?_|refine jc ?_|refine jd ?_|refine je ?_|refine jf ?_|refine jg ?_|refine jh ?_|refine ji ?_|refine jj ?_|refine jk ?_|refine jl ?_|refine jm ?_|refine jn ?_|refine jo ?_|refine jp ?_|refine jq ?_|refine jr ?_|refine js ?_|refine jt ?_|refine ju ?_|refine jv ?_|refine jw ?_|refine jx ?_|refine jy ?_|refine jz ?_|refine jA ?_|refine jB ?_|refine jC ?_|refine jD ?_|refine jE ?_|refine jF ?_|refine jG ?_|refine jH ?_|refine jI ?_|refine jJ ?_|refine jK ?_|refine jL ?_|refine jM (by assumption) ?_|refine jN (by assumption) rfl ?_|refine jO (by assumption) ?_|refine jP (by assumption) rfl ?_|refine jQ ?_|refine jR ?_|refine jS ?_|refine jT ?_|refine jU (by assumption) rfl ?_))
      exact ⟨rfl, k1⟩
theorem bools_ret {w : World} {D D' : Nat → Prop} {u v : Value} {xs ys : List Bool} (h1 : LV vb w D u xs) (h2 : LV vb w D' v ys) (hf : Few xs.length) :
    Ret Try.prog 8 #[u, v] w (fun r w' => r = .bool (decide (xs = ys)) ∧ Keep w w' No) := by
  obtain ⟨A, c, rfl, h1, hc1⟩ := h1
  obtain ⟨B, c', rfl, h2, hc2⟩ := h2
  have hfx : xs.length ≤ 100000000000 := hf
  refine ok8 _ _ _ _ ?_
  unfold sh8
  by_cases hl : xs.length = ys.length
  rotate_left
  · rw [decide_eq_false (fun e => hl (by rw [e]))]
    (repeat (first|refine ja ?_|refine jb ?_|refine jc ?_|refine jd ?_|refine je ?_|refine jf ?_|refine jg ?_|refine jh ?_|refine ji ?_|refine jj ?_|refine jk ?_|refine jl ?_|refine jm ?_|refine jn ?_|refine jo ?_|refine jp ?_|refine jq ?_|refine jr ?_|refine js ?_|refine jt ?_|refine ju ?_|refine jv ?_|refine jw ?_|refine jx ?_|refine jy ?_|refine jz ?_|refine jA ?_|refine jB ?_|refine jC ?_|refine jD ?_|refine jE ?_|refine jF ?_|refine jG ?_|refine jH ?_|refine jI ?_|refine jJ ?_|refine jK ?_|refine jL ?_|refine jM (by assumption) ?_|refine jN (by assumption) rfl ?_|refine jO (by assumption) ?_|refine jP (by assumption) rfl ?_|refine jQ ?_|refine jR ?_|refine jS ?_|refine jT ?_|refine jU (by assumption) rfl ?_))
    exact ⟨rfl, Keep.refl _ _⟩
  (repeat (first|refine ja ?_|refine jb ?_|refine jc ?_|refine jd ?_|refine je ?_|refine jf ?_|refine jg ?_|refine jh ?_|refine ji ?_|refine jj ?_|refine jk ?_|refine jl ?_|refine jm ?_|refine jn ?_|refine jo ?_|refine jp ?_|refine jq ?_|refine jr ?_|refine js ?_|refine jt ?_|refine ju ?_|refine jv ?_|refine jw ?_|refine jx ?_|refine jy ?_|refine jz ?_|refine jA ?_|refine jB ?_|refine jC ?_|refine jD ?_|refine jE ?_|refine jF ?_|refine jG ?_|refine jH ?_|refine jI ?_|refine jJ ?_|refine jK ?_|refine jL ?_|refine jM (by assumption) ?_|refine jN (by assumption) rfl ?_|refine jO (by assumption) ?_|refine jP (by assumption) rfl ?_|refine jQ ?_|refine jR ?_|refine jS ?_|refine jT ?_|refine jU (by assumption) rfl ?_))
  refine M.loop_i (σ := Nat) (fun i vals w' => vals = [vi i] ∧ i ≤ xs.length ∧ xs.take i = ys.take i ∧ Keep w w' No) (fun i => xs.length - i) 0 ⟨rfl, by omega, rfl, Keep.refl _ _⟩ ?_
  rintro i vals w1 K ⟨rfl, hi, he, k1⟩ hK _
  simp only [List.getD_cons_zero, List.getD_cons_succ]
  by_cases hlt : i < xs.length
  · obtain ⟨x, hx⟩ : ∃ x, xs[i]? = some x := ⟨_, List.getElem?_eq_getElem hlt⟩
    obtain ⟨y, hy⟩ : ∃ y, ys[i]? = some y := ⟨_, List.getElem?_eq_getElem (by omega)⟩
    have kd := k1.trans (Keep.drew w1 No) (fun _ _ h => h)
    (repeat (first|refine ja ?_|refine jb ?_|refine jc ?_|refine jd ?_|refine je ?_|refine jf ?_|refine jg ?_|refine jh ?_|refine ji ?_|refine jj ?_|refine jk ?_|refine jl ?_|refine jm ?_|refine jn ?_|refine jo ?_|refine jp ?_|refine jq ?_|refine jr ?_|refine js ?_|refine jt ?_|refine ju ?_|refine jv ?_|refine jw ?_|refine jx ?_|refine jy ?_|refine jz ?_|refine jA ?_|refine jB ?_|refine jC ?_|refine jD ?_|refine jE ?_|refine jF ?_|refine jG ?_|refine jH ?_|refine jI ?_|refine jJ ?_|refine jK ?_|refine jL ?_|refine jM (by assumption) ?_|refine jN (by assumption) rfl ?_|refine jO (by assumption) ?_|refine jP (by assumption) rfl ?_|refine jQ ?_|refine jR ?_|refine jS ?_|refine jT ?_|refine jU (by assumption) rfl ?_))
    refine M.idxLV_i (h1.keep kd (fun _ _ _ h => h)) rfl (by omega) (by omega) (x := x) (by simpa using hx) (fun bb oo hA hcc => ?_)
    (repeat (first|refine ja ?_|refine jb ?_|refine jc ?_|refine jd ?_|refine je ?_|refine jf ?_|refine jg ?_|refine jh ?_|refine ji ?_|refine jj ?_|refine jk ?_|refine jl ?_|refine jm ?_|refine jn ?_|refine jo ?_|refine jp ?_|refine jq ?_|refine jr ?_|refine js ?_|refine jt ?_|refine ju ?_|refine jv ?_|refine jw ?_|refine jx ?_|refine jy ?_|refine jz ?_|refine jA ?_|refine jB ?_|refine jC ?_|refine jD ?_|refine jE ?_|refine jF ?_|refine jG ?_|refine jH ?_|refine jI ?_|refine jJ ?_|refine jK ?_|refine jL ?_|refine jM (by assumption) ?_|refine jN (by assumption) rfl ?_|refine jO (by assumption) ?_|refine jP (by assumption) rfl ?_|refine jQ ?_|refine jR ?_|refine jS ?_|refine jT ?_|refine jU (by assumption) rfl ?_))
    refine M.idxLV_i (h2.keep kd (fun _ _ _ h => h)) rfl (by omega) (by omega) (x := y) (by simpa using hy) (fun bb oo hA hcc => ?_)
    refine M.load_i hcc ?_
    refine M.eqB_i ?_
    by_cases hxy : x = y
    · subst hxy
      have e : (true ^^ (x == x)) = false := by simp
      rw [e]
      (repeat (first|refine ja ?_|refine jb ?_|refine jc ?_|refine jd ?_|refine je ?_|refine jf ?_|refine jg ?_|refine jh ?_|refine ji ?_|refine jj ?_|refine jk ?_|refine jl ?_|refine jm ?_|refine jn ?_|refine jo ?_|refine jp ?_|refine jq ?_|refine jr ?_|refine js ?_|refine jt ?_|refine ju ?_|refine jv ?_|refine jw ?_|refine jx ?_|refine jy ?_|refine jz ?_|refine jA ?_|refine jB ?_|refine jC ?_|refine jD ?_|refine jE ?_|refine jF ?_|refine jG ?_|refine jH ?_|refine jI ?_|refine jJ ?_|refine jK ?_|refine jL ?_|refine jM (by assumption) ?_|refine jN (by assumption) rfl ?_|refine jO (by assumption) ?_|refine jP (by assumption) rfl ?_|refine jQ ?_|refine jR ?_|refine jS ?_|refine jT ?_|refine jU (by assumption) rfl ?_))
      refine hK (i + 1) _ _ (by omega) ⟨rfl, by omega, ?_, kd⟩
      rw [List.take_add_one, List.take_add_one, he, hx, hy]
    · have e : (true ^^ (x == y)) = true := by simp [hxy]
      rw [e]
      (repeat (first|refine ja ?_|refine jb ?_|refine jc ?_|refine jd ?_|refine je ?_|refine jf ?_|refine jg ?_|refine jh ?_|refine ji ?_|refine jj ?_|refine jk ?_|refine jl ?_|refine jm ?_|refine jn ?_|refine jo ?_|refine jp ?_|refine jq ?_|refine jr ?_|refine js ?_|refine jt ?_|refine ju ?_|refine jv ?_|refine jw ?_|refine jx ?_|refine jy ?_|refine jz ?_|refine jA ?_|refine jB ?_|refine jC ?_|refine jD ?_|refine jE ?_|refine jF ?_|refine jG ?_|refine jH ?_|refine jI ?_|refine jJ ?_|refine jK ?_|refine jL ?_|refine jM (by assumption) ?_|refine jN (by assumption) rfl ?_|refine jO (by assumption) ?_|refine jP (by assumption) rfl ?_|refine jQ ?_|refine jR ?_|refine jS ?_|refine jT ?_|refine jU (by assumption) rfl ?_))
      refine ⟨?_, kd⟩
      rw [decide_eq_false (fun e => hxy (by rw [e] at hx; rw [hx] at hy; exact Option.some.inj hy))]
  · have e : i = xs.length := by omega
    subst e
    rw [List.take_length, hl, List.take_length] at he
    rw [decide_eq_true he]
    (repeat (first|refine ja ?_|refine jb ?_|refine jc ?_|refine jd ?_|refine je ?_|refine jf ?_|refine jg ?_|refine jh ?_|refine ji ?_|refine jj ?_|refine jk ?_|refine jl ?_|refine jm ?_|refine jn ?_|refine jo ?_|refine jp ?_|refine jq ?_|refine jr ?_|refine js ?_|refine jt ?_|refine ju ?_|refine jv ?_|refine jw ?_|refine jx ?_|refine jy ?_|refine jz ?_|refine jA ?_|refine jB ?_|refine jC ?_|refine jD ?_|refine jE ?_|refine jF ?_|refine jG ?_|refine jH ?_|refine jI ?_|refine jJ ?_|refine jK ?_|refine jL ?_|refine jM (by assumption) ?_|refine jN (by assumption) rfl ?_|refine jO (by assumption) ?_|refine jP (by assumption) rfl ?_|refine jQ ?_|refine jR ?_|refine jS ?_|refine jT ?_|refine jU (by assumption) rfl ?_))
    exact ⟨rfl, k1⟩
/-! ### the clauses that are kept -/
section
variable {w : World} {D : Nat → Prop} {v : Value} {l : List Lr}
theorem keep_ret (h : LN Lr.cells w D v l) (hf : l.length ≤ 1000000) :
    Ret Try.prog 9 #[v] w (fun r w' => LV vb w' (w.heap.size ≤ ·) r (keptB l) ∧ (∃ ys, Srt13 l ys) ∧ Keep w w' No) := by
  have h := h.mono (D' := (· < w.heap.size)) (fun b hb _ => hb)
  obtain ⟨A, c, rfl, hr, hcap⟩ := id h
  refine ok9 _ _ _ ?_
  unfold sh9
  refine M.new_i (l := [.slice A l.length c]) (fun w1 b1 k1 s1 => ?_)
  (repeat (first|refine ja ?_|refine jb ?_|refine jc ?_|refine jd ?_|refine je ?_|refine jf ?_|refine jg ?_|refine jh ?_|refine ji ?_|refine jj ?_|refine jk ?_|refine jl ?_|refine jm ?_|refine jn ?_|refine jo ?_|refine jp ?_|refine jq ?_|refine jr ?_|refine js ?_|refine jt ?_|refine ju ?_|refine jv ?_|refine jw ?_|refine jx ?_|refine jy ?_|refine jz ?_|refine jA ?_|refine jB ?_|refine jC ?_|refine jD ?_|refine jE ?_|refine jF ?_|refine jG ?_|refine jH ?_|refine jI ?_|refine jJ ?_|refine jK ?_|refine jL ?_|refine jM (by assumption) ?_|refine jN (by assumption) rfl ?_|refine jO (by assumption) ?_|refine jP (by assumption) rfl ?_|refine jQ ?_|refine jR ?_|refine jS ?_|refine jT ?_|refine jU (by assumption) rfl ?_))
  refine M.makeSlice_i rfl rfl (by omega) (by omega) (fun w2 b2 k2 s2 => ?_)
  have b1 := b1.keep k2 (fun h => h)
  have k02 := k1.trans k2 (fun _ _ h => h)
  (repeat (first|refine ja ?_|refine jb ?_|refine jc ?_|refine jd ?_|refine je ?_|refine jf ?_|refine jg ?_|refine jh ?_|refine ji ?_|refine jj ?_|refine jk ?_|refine jl ?_|refine jm ?_|refine jn ?_|refine jo ?_|refine jp ?_|refine jq ?_|refine jr ?_|refine js ?_|refine jt ?_|refine ju ?_|refine jv ?_|refine jw ?_|refine jx ?_|refine jy ?_|refine jz ?_|refine jA ?_|refine jB ?_|refine jC ?_|refine jD ?_|refine jE ?_|refine jF ?_|refine jG ?_|refine jH ?_|refine jI ?_|refine jJ ?_|refine jK ?_|refine jL ?_|refine jM (by assumption) ?_|refine jN (by assumption) rfl ?_|refine jO (by assumption) ?_|refine jP (by assumption) rfl ?_|refine jQ ?_|refine jR ?_|refine jS ?_|refine jT ?_|refine jU (by assumption) rfl ?_))
  refine M.loop_i (σ := Nat) (fun i vals w' => ∃ (sv : Value) (out : List Bool), vals = [sv, vi i] ∧ i ≤ l.length ∧ GI w' (w2.heap.size ≤ ·) sv (othI l i) ∧ out.length = l.length ∧ Blk w' w1.heap.size (out.map vb) ∧ (∀ j, j < i → out[j]? = some (sureN l j)) ∧ (∀ j, i ≤ j → j < l.length → out[j]? = some false) ∧ Blk w' w.heap.size [.slice A l.length c] ∧ Keep w w' No) (fun i => l.length - i) 0
    ⟨_, List.replicate l.length false, rfl, by omega, GI.nil _ _, by simp, by rw [List.map_replicate]; exact b2, fun j hj => by omega, fun j _ hj => by rw [List.getElem?_replicate, if_pos hj], b1, k02⟩ ?_
  rintro i vals w3 K ⟨sv, out, rfl, hi, g3, hol, b3, ho1, ho2, d3, k3⟩ hK _
  simp only [List.getD_cons_zero, List.getD_cons_succ]
  have q3 := k3.size
  have hoi : (othI l i).length ≤ i := by unfold othI; rw [List.length_map]; exact othN_len l i
  by_cases hlt : i < l.length
  · obtain ⟨x, hx⟩ : ∃ x, l[i]? = some x := ⟨_, List.getElem?_eq_getElem hlt⟩
    have hxs : sureN l i = sureB x := by unfold sureN; rw [List.getD_eq_getElem?_getD, hx]; rfl
    have hr3 := hr.keep k3 (fun _ _ _ h => h)
    have hb3l := b3.lt
    (repeat (first|refine ja ?_|refine jb ?_|refine jc ?_|refine jd ?_|refine je ?_|refine jf ?_|refine jg ?_|refine jh ?_|refine ji ?_|refine jj ?_|refine jk ?_|refine jl ?_|refine jm ?_|refine jn ?_|refine jo ?_|refine jp ?_|refine jq ?_|refine jr ?_|refine js ?_|refine jt ?_|refine ju ?_|refine jv ?_|refine jw ?_|refine jx ?_|refine jy ?_|refine jz ?_|refine jA ?_|refine jB ?_|refine jC ?_|refine jD ?_|refine jE ?_|refine jF ?_|refine jG ?_|refine jH ?_|refine jI ?_|refine jJ ?_|refine jK ?_|refine jL ?_|refine jM (by assumption) ?_|refine jN (by assumption) rfl ?_|refine jO (by assumption) ?_|refine jP (by assumption) rfl ?_|refine jQ ?_|refine jR ?_|refine jS ?_|refine jT ?_|refine jU (by assumption) rfl ?_))
    refine M.share_j (fun vals w' => ∃ (sv : Value) (out : List Bool), vals = [sv] ∧ GI w' (w2.heap.size ≤ ·) sv (othI l (i + 1)) ∧ out.length = l.length ∧ Blk w' w1.heap.size (out.map vb) ∧ (∀ j, j < i + 1 → out[j]? = some (sureN l j)) ∧ (∀ j, i + 1 ≤ j → j < l.length → out[j]? = some false) ∧ Blk w' w.heap.size [.slice A l.length c] ∧ Keep w w' No) ?_ ?_
    · rintro vals w4 ⟨sv, out, rfl, a1, a2, a3, a4, a5, a6, a7⟩ _
      simp only [List.getD_cons_zero, List.getD_cons_succ]
      (repeat (first|refine ja ?_|refine jb ?_|refine jc ?_|refine jd ?_|refine je ?_|refine jf ?_|refine jg ?_|refine jh ?_|refine ji ?_|refine jj ?_|refine jk ?_|refine jl ?_|refine jm ?_|refine jn ?_|refine jo ?_|refine jp ?_|refine jq ?_|refine jr ?_|refine js ?_|refine jt ?_|refine ju ?_|refine jv ?_|refine jw ?_|refine jx ?_|refine jy ?_|refine jz ?_|refine jA ?_|refine jB ?_|refine jC ?_|refine jD ?_|refine jE ?_|refine jF ?_|refine jG ?_|refine jH ?_|refine jI ?_|refine jJ ?_|refine jK ?_|refine jL ?_|refine jM (by assumption) ?_|refine jN (by assumption) rfl ?_|refine jO (by assumption) ?_|refine jP (by assumption) rfl ?_|refine jQ ?_|refine jR ?_|refine jS ?_|refine jT ?_|refine jU (by assumption) rfl ?_))
      exact hK (i + 1) _ _ (by omega) ⟨sv, out, rfl, by omega, a1, a2, a3, a4, a5, a6, a7⟩
    · intro K2 hK2
      refine M.idxF_i lr_len (by omega) hr3 rfl (by omega) (x := x) (by simpa using hx) (fun bb oo hc => ?_)
      refine M.loadL_i hc ?_
      refine M.new_i (l := zLr.cells) (fun w4 b4 k4 s4 => ?_)
      refine M.storeAll_i b4 rfl rfl (lr_one x) (fun w5 b5 k5 s5 => ?_)
      have b5 : Blk w5 w3.heap.size [vi x.sz, vi x.gl, vi x.ac] := b5
      have k35 : Keep w3 w5 No := k4.trans k5 (fun b hb h => by omega)
      have b35 := b3.keep k35 (fun h => h)
      have d35 := d3.keep k35 (fun h => h)
      have g35 := g3.keep k35 (fun _ _ _ h => h)
      have q2 := k02.size
      have put : ∀ w6, Blk w6 w1.heap.size ((out.map vb).set i (vb (sureB x))) → Keep w5 w6 (· = w1.heap.size) → Blk w6 w.heap.size [.slice A l.length c] ∧ Keep w w6 No ∧ Blk w6 w1.heap.size ((out.set i (sureB x)).map vb) ∧ GI w6 (w2.heap.size ≤ ·) sv (othI l i) ∧ (out.set i (sureB x)).length = l.length ∧ (∀ j, j < i + 1 → (out.set i (sureB x))[j]? = some (sureN l j)) ∧ (∀ j, i + 1 ≤ j → j < l.length → (out.set i (sureB x))[j]? = some false) := fun w6 b6 k6 => by
        refine ⟨d35.keep k6 (fun h => by omega), (k3.trans k35 (fun _ _ h => h)).trans k6 (fun b hb h => by have h : b = w1.heap.size := h; omega), by rw [List.map_set]; exact b6, g35.keep k6 (fun b hb h e => by have h : w2.heap.size ≤ b := h; have e : b = w1.heap.size := e; omega), by rw [List.length_set]; exact hol, fun j hj => ?_, fun j hj hj2 => ?_⟩
        · rw [List.getElem?_set]
          by_cases e : i = j
          · subst e; rw [if_pos rfl, if_pos (by omega), hxs]
          · rw [if_neg e]; exact ho1 j (by omega)
        · rw [List.getElem?_set, if_neg (by omega)]; exact ho2 j (by omega) hj2
      have hil : i < (out.map vb).length := by rw [List.length_map]; omega
      have rest : ∀ (s : Bool), sureB x = s → M.indexSl 1 (.slice (some ⟨w1.heap.size, 0, none⟩) l.length l.length) (vi i) (fun t29 w => M.store 1 t29 (vb s) (fun _ w => M.indexSl 1 (.slice (some ⟨w1.heap.size, 0, none⟩) l.length l.length) (vi i) (fun t32 w => M.load1 t32 (fun t33 w => M.not t33 (fun t34 w => M.cond t34
          (M.buildSlice 3 1 #[.int .i64 0] 1 [(0, vi i)] (fun t37 w => M.append 3 1 8 #[.int .i64 0] sv t37 (fun t38 w => K2 [t38] w) w) w) (K2 [sv] w)) w) w) w) w) w5 := fun s hs => by
        refine M.idx_i (by omega) (by omega) ?_
        simp only [Nat.zero_add, Nat.mul_one, Int.toNat_natCast]
        refine M.store_i b35 hil rfl (fun w6 b6 k6 s6 => ?_)
        subst hs
        obtain ⟨p1, p2, p3, p4, p5, p6, p7⟩ := put w6 b6 k6
        refine M.idx_i (by omega) (by omega) ?_
        simp only [Nat.zero_add, Nat.mul_one, Int.toNat_natCast]
        refine M.loadB_i b6 (v := vb (sureB x)) (by rw [List.getElem?_set, if_pos rfl, if_pos hil]) ?_
        cases hs : sureB x with
        | true =>
          (repeat (first|refine ja ?_|refine jb ?_|refine jc ?_|refine jd ?_|refine je ?_|refine jf ?_|refine jg ?_|refine jh ?_|refine ji ?_|refine jj ?_|refine jk ?_|refine jl ?_|refine jm ?_|refine jn ?_|refine jo ?_|refine jp ?_|refine jq ?_|refine jr ?_|refine js ?_|refine jt ?_|refine ju ?_|refine jv ?_|refine jw ?_|refine jx ?_|refine jy ?_|refine jz ?_|refine jA ?_|refine jB ?_|refine jC ?_|refine jD ?_|refine jE ?_|refine jF ?_|refine jG ?_|refine jH ?_|refine jI ?_|refine jJ ?_|refine jK ?_|refine jL ?_|refine jM (by assumption) ?_|refine jN (by assumption) rfl ?_|refine jO (by assumption) ?_|refine jP (by assumption) rfl ?_|refine jQ ?_|refine jR ?_|refine jS ?_|refine jT ?_|refine jU (by assumption) rfl ?_))
          refine hK2 _ _ ⟨sv, _, rfl, ?_, p5, p3, p6, p7, p1, p2⟩
          have e : othI l (i + 1) = othI l i := by
            unfold othI; rw [othN_succ, hxs, hs]; simp
          rw [e]; exact p4
        | false =>
          (repeat (first|refine ja ?_|refine jb ?_|refine jc ?_|refine jd ?_|refine je ?_|refine jf ?_|refine jg ?_|refine jh ?_|refine ji ?_|refine jj ?_|refine jk ?_|refine jl ?_|refine jm ?_|refine jn ?_|refine jo ?_|refine jp ?_|refine jq ?_|refine jr ?_|refine js ?_|refine jt ?_|refine ju ?_|refine jv ?_|refine jw ?_|refine jx ?_|refine jy ?_|refine jz ?_|refine jA ?_|refine jB ?_|refine jC ?_|refine jD ?_|refine jE ?_|refine jF ?_|refine jG ?_|refine jH ?_|refine jI ?_|refine jJ ?_|refine jK ?_|refine jL ?_|refine jM (by assumption) ?_|refine jN (by assumption) rfl ?_|refine jO (by assumption) ?_|refine jP (by assumption) rfl ?_|refine jQ ?_|refine jR ?_|refine jS ?_|refine jT ?_|refine jU (by assumption) rfl ?_))
          refine M.buildSlice_i [vi i] (by kernel_rfl) (fun w7 b7 k7 s7 => ?_)
          refine M.append1_i (p4.keep k7 (fun _ _ _ h => h)) (Row.of_blk' (D := fun _ => True) b7 trivial) rfl (by omega) (fun v8 w8 g8 k8 => ?_)
          have q6 := p2.size; have q7 := k7.size
          refine hK2 _ _ ⟨v8, _, rfl, ?_, p5, (p3.keep k7 (fun h => h)).keep k8 (fun h => by have h : w2.heap.size ≤ w1.heap.size := h; omega), p6, p7, (p1.keep k7 (fun h => h)).keep k8 (fun h => by have h : w2.heap.size ≤ w.heap.size := h; omega), (p2.trans k7 (fun _ _ h => h)).trans k8 (fun b hb h => by have h : w2.heap.size ≤ b := h; omega)⟩
          have e : othI l (i + 1) = othI l i ++ [(i : Int)] := by
            unfold othI; rw [othN_succ, hxs, hs]; simp
          rw [e]
          have q56 := k6.size; have q35 := k35.size
          exact g8.mono (fun b hb h => by
            rcases h with h | h
            · exact h
            · show w2.heap.size ≤ b; omega)
      by_cases h1 : x.gl ≤ 2
      · (repeat (first|refine ja ?_|refine jb ?_|refine jc ?_|refine jd ?_|refine je ?_|refine jf ?_|refine jg ?_|refine jh ?_|refine ji ?_|refine jj ?_|refine jk ?_|refine jl ?_|refine jm ?_|refine jn ?_|refine jo ?_|refine jp ?_|refine jq ?_|refine jr ?_|refine js ?_|refine jt ?_|refine ju ?_|refine jv ?_|refine jw ?_|refine jx ?_|refine jy ?_|refine jz ?_|refine jA ?_|refine jB ?_|refine jC ?_|refine jD ?_|refine jE ?_|refine jF ?_|refine jG ?_|refine jH ?_|refine jI ?_|refine jJ ?_|refine jK ?_|refine jL ?_|refine jM (by assumption) ?_|refine jN (by assumption) rfl ?_|refine jO (by assumption) ?_|refine jP (by assumption) rfl ?_|refine jQ ?_|refine jR ?_|refine jS ?_|refine jT ?_|refine jU (by assumption) rfl ?_))
        exact rest true (by unfold sureB; rw [decide_eq_true h1]; rfl)
      · by_cases h2 : x.sz ≤ 2
        · (repeat (first|refine ja ?_|refine jb ?_|refine jc ?_|refine jd ?_|refine je ?_|refine jf ?_|refine jg ?_|refine jh ?_|refine ji ?_|refine jj ?_|refine jk ?_|refine jl ?_|refine jm ?_|refine jn ?_|refine jo ?_|refine jp ?_|refine jq ?_|refine jr ?_|refine js ?_|refine jt ?_|refine ju ?_|refine jv ?_|refine jw ?_|refine jx ?_|refine jy ?_|refine jz ?_|refine jA ?_|refine jB ?_|refine jC ?_|refine jD ?_|refine jE ?_|refine jF ?_|refine jG ?_|refine jH ?_|refine jI ?_|refine jJ ?_|refine jK ?_|refine jL ?_|refine jM (by assumption) ?_|refine jN (by assumption) rfl ?_|refine jO (by assumption) ?_|refine jP (by assumption) rfl ?_|refine jQ ?_|refine jR ?_|refine jS ?_|refine jT ?_|refine jU (by assumption) rfl ?_))
          exact rest true (by unfold sureB; rw [decide_eq_false h1, decide_eq_true h2]; rfl)
        · (repeat (first|refine ja ?_|refine jb ?_|refine jc ?_|refine jd ?_|refine je ?_|refine jf ?_|refine jg ?_|refine jh ?_|refine ji ?_|refine jj ?_|refine jk ?_|refine jl ?_|refine jm ?_|refine jn ?_|refine jo ?_|refine jp ?_|refine jq ?_|refine jr ?_|refine js ?_|refine jt ?_|refine ju ?_|refine jv ?_|refine jw ?_|refine jx ?_|refine jy ?_|refine jz ?_|refine jA ?_|refine jB ?_|refine jC ?_|refine jD ?_|refine jE ?_|refine jF ?_|refine jG ?_|refine jH ?_|refine jI ?_|refine jJ ?_|refine jK ?_|refine jL ?_|refine jM (by assumption) ?_|refine jN (by assumption) rfl ?_|refine jO (by assumption) ?_|refine jP (by assumption) rfl ?_|refine jQ ?_|refine jR ?_|refine jS ?_|refine jT ?_|refine jU (by assumption) rfl ?_))
          exact rest false (by unfold sureB; rw [decide_eq_false h1, decide_eq_false h2]; rfl)
  · have e : i = l.length := by omega
    subst e
    have q2 := k02.size
    have hw := wk l
    have hcmp : CmpF (.func (.func 13) #[] #[ptr1 w.heap.size]) (fun w' => Blk w' w.heap.size [.slice A l.length c] ∧ Row w' (· < w.heap.size) A (l.flatMap Lr.cells)) (ltL l) (fun x => 0 ≤ x ∧ x < l.length) := by
      rintro x y w4 k ⟨hx0, hx1⟩ ⟨hy0, hy1⟩ ⟨bI, rI⟩ hk
      obtain ⟨a, ha⟩ : ∃ a, l[x.toNat]? = some a := ⟨_, List.getElem?_eq_getElem (by omega)⟩
      obtain ⟨b, hb⟩ : ∃ b, l[y.toNat]? = some b := ⟨_, List.getElem?_eq_getElem (by omega)⟩
      refine M.callv_i (fun a w => rfl) (Q := fun r w' => r = vi (ordI a b) ∧ Keep w4 w' No) ?_ ?_
      · show Ret Try.prog 13 #[vi x, vi y, ptr1 w.heap.size] w4 _
        refine ok13 _ _ _ _ _ ?_
        unfold sh13
        have kd := Keep.drew w4 No
        have bI := bI.keep kd (fun h => h)
        have rI := rI.keep kd (fun _ _ _ h => h)
        (repeat (first|refine ja ?_|refine jb ?_|refine jc ?_|refine jd ?_|refine je ?_|refine jf ?_|refine jg ?_|refine jh ?_|refine ji ?_|refine jj ?_|refine jk ?_|refine jl ?_|refine jm ?_|refine jn ?_|refine jo ?_|refine jp ?_|refine jq ?_|refine jr ?_|refine js ?_|refine jt ?_|refine ju ?_|refine jv ?_|refine jw ?_|refine jx ?_|refine jy ?_|refine jz ?_|refine jA ?_|refine jB ?_|refine jC ?_|refine jD ?_|refine jE ?_|refine jF ?_|refine jG ?_|refine jH ?_|refine jI ?_|refine jJ ?_|refine jK ?_|refine jL ?_|refine jM (by assumption) ?_|refine jN (by assumption) rfl ?_|refine jO (by assumption) ?_|refine jP (by assumption) rfl ?_|refine jQ ?_|refine jR ?_|refine jS ?_|refine jT ?_|refine jU (by assumption) rfl ?_))
        refine M.idxF_i lr_len (by omega) rI rfl hx0 (x := a) ha (fun bb oo hc => ?_)
        refine M.loadL_i hc ?_
        (repeat (first|refine ja ?_|refine jb ?_|refine jc ?_|refine jd ?_|refine je ?_|refine jf ?_|refine jg ?_|refine jh ?_|refine ji ?_|refine jj ?_|refine jk ?_|refine jl ?_|refine jm ?_|refine jn ?_|refine jo ?_|refine jp ?_|refine jq ?_|refine jr ?_|refine js ?_|refine jt ?_|refine ju ?_|refine jv ?_|refine jw ?_|refine jx ?_|refine jy ?_|refine jz ?_|refine jA ?_|refine jB ?_|refine jC ?_|refine jD ?_|refine jE ?_|refine jF ?_|refine jG ?_|refine jH ?_|refine jI ?_|refine jJ ?_|refine jK ?_|refine jL ?_|refine jM (by assumption) ?_|refine jN (by assumption) rfl ?_|refine jO (by assumption) ?_|refine jP (by assumption) rfl ?_|refine jQ ?_|refine jR ?_|refine jS ?_|refine jT ?_|refine jU (by assumption) rfl ?_))
        refine M.idxF_i lr_len (by omega) rI rfl hy0 (x := b) hb (fun bb oo hc => ?_)
        refine M.loadL_i hc ?_
        refine M.call_i (order_ret a b w4.drew) ?_; rintro _ w5 ⟨rfl, k5⟩
        refine M.stB_i (bI.keep k5 (fun h => h)) rfl ?_
        refine M.stB_i (bI.keep k5 (fun h => h)) rfl ?_
        exact ⟨rfl, kd.trans k5 (fun _ _ h => h)⟩
      · rintro r w5 ⟨rfl, k5⟩
        refine hk _ w5 ?_ k5
        rw [ord_neg]
        unfold ltL
        rw [List.getD_eq_getElem?_getD, List.getD_eq_getElem?_getD, ha, hb]; rfl
    have hlen : (othI l l.length).length = (othN l l.length).length := by unfold othI; simp
    have hokk : ∀ j, j < (othI l l.length).length → 0 ≤ fn (othI l l.length) j ∧ fn (othI l l.length) j < l.length := fun j hj => by
      rw [hlen] at hj
      rw [othI_get hj]
      have := (mem_oth.1 (List.getElem_mem hj)).1
      omega
    have hfo : (othI l l.length).length ≤ l.length := hoi
    (repeat (first|refine ja ?_|refine jb ?_|refine jc ?_|refine jd ?_|refine je ?_|refine jf ?_|refine jg ?_|refine jh ?_|refine ji ?_|refine jj ?_|refine jk ?_|refine jl ?_|refine jm ?_|refine jn ?_|refine jo ?_|refine jp ?_|refine jq ?_|refine jr ?_|refine js ?_|refine jt ?_|refine ju ?_|refine jv ?_|refine jw ?_|refine jx ?_|refine jy ?_|refine jz ?_|refine jA ?_|refine jB ?_|refine jC ?_|refine jD ?_|refine jE ?_|refine jF ?_|refine jG ?_|refine jH ?_|refine jI ?_|refine jJ ?_|refine jK ?_|refine jL ?_|refine jM (by assumption) ?_|refine jN (by assumption) rfl ?_|refine jO (by assumption) ?_|refine jP (by assumption) rfl ?_|refine jQ ?_|refine jR ?_|refine jS ?_|refine jT ?_|refine jU (by assumption) rfl ?_))
    refine M.call_i (sortStable_ret hw hcmp (fun a b hI k => ⟨hI.1.keep k (fun h => by have h : w2.heap.size ≤ w.heap.size := h; omega), hI.2.keep k (fun b hb h1 h2 => by have h1 : b < w.heap.size := h1; have h2 : w2.heap.size ≤ b := h2; omega)⟩) g3 (by show _ ≤ 100000000000; omega) ⟨d3, hr.keep k3 (fun _ _ _ h => h)⟩ hokk (fun i j h1 h2 => othI_up l l.length h1 h2)) ?_; rintro _ w4 ⟨rfl, ys, g4, hl4, hs4, hm4, k4⟩
    have hS : Srt13 l ys := ⟨by omega, by rw [hl4]; exact hs4, fun x => by rw [mem_fn, mem_fn, hl4]; exact hm4 x⟩
    obtain ⟨B, cb, rfl, _, hcb⟩ := GC.row2 g4 (by omega)
    have b4 := b3.keep k4 (fun h => by have h : w2.heap.size ≤ w1.heap.size := h; omega)
    have k04 : Keep w w4 No := k3.trans k4 (fun b hb h => by have h : w2.heap.size ≤ b := h; omega)
    have hyl : ys.length ≤ l.length := by omega
    generalize hyn : ys.length = n at *
    (repeat (first|refine ja ?_|refine jb ?_|refine jc ?_|refine jd ?_|refine je ?_|refine jf ?_|refine jg ?_|refine jh ?_|refine ji ?_|refine jj ?_|refine jk ?_|refine jl ?_|refine jm ?_|refine jn ?_|refine jo ?_|refine jp ?_|refine jq ?_|refine jr ?_|refine js ?_|refine jt ?_|refine ju ?_|refine jv ?_|refine jw ?_|refine jx ?_|refine jy ?_|refine jz ?_|refine jA ?_|refine jB ?_|refine jC ?_|refine jD ?_|refine jE ?_|refine jF ?_|refine jG ?_|refine jH ?_|refine jI ?_|refine jJ ?_|refine jK ?_|refine jL ?_|refine jM (by assumption) ?_|refine jN (by assumption) rfl ?_|refine jO (by assumption) ?_|refine jP (by assumption) rfl ?_|refine jQ ?_|refine jR ?_|refine jS ?_|refine jT ?_|refine jU (by assumption) rfl ?_))
    refine M.quo2_i (by omega) (by omega) ?_
    (repeat (first|refine ja ?_|refine jb ?_|refine jc ?_|refine jd ?_|refine je ?_|refine jf ?_|refine jg ?_|refine jh ?_|refine ji ?_|refine jj ?_|refine jk ?_|refine jl ?_|refine jm ?_|refine jn ?_|refine jo ?_|refine jp ?_|refine jq ?_|refine jr ?_|refine js ?_|refine jt ?_|refine ju ?_|refine jv ?_|refine jw ?_|refine jx ?_|refine jy ?_|refine jz ?_|refine jA ?_|refine jB ?_|refine jC ?_|refine jD ?_|refine jE ?_|refine jF ?_|refine jG ?_|refine jH ?_|refine jI ?_|refine jJ ?_|refine jK ?_|refine jL ?_|refine jM (by assumption) ?_|refine jN (by assumption) rfl ?_|refine jO (by assumption) ?_|refine jP (by assumption) rfl ?_|refine jQ ?_|refine jR ?_|refine jS ?_|refine jT ?_|refine jU (by assumption) rfl ?_))
    obtain ⟨m, hm⟩ : ∃ m : Nat, ((n : Int) - n / 2) = m := ⟨(n + 1) / 2, by omega⟩
    rw [hm]
    refine M.slice_i 0 m cb (sl3_h (by omega)) ?_
    have gcut := GI.cut (m := m) (by rw [hyn]; exact g4) (by omega)
    simp only [Nat.sub_zero] at gcut ⊢
    have hcl : (ys.take m).length = m := by rw [List.length_take]; omega
    (repeat (first|refine ja ?_|refine jb ?_|refine jc ?_|refine jd ?_|refine je ?_|refine jf ?_|refine jg ?_|refine jh ?_|refine ji ?_|refine jj ?_|refine jk ?_|refine jl ?_|refine jm ?_|refine jn ?_|refine jo ?_|refine jp ?_|refine jq ?_|refine jr ?_|refine js ?_|refine jt ?_|refine ju ?_|refine jv ?_|refine jw ?_|refine jx ?_|refine jy ?_|refine jz ?_|refine jA ?_|refine jB ?_|refine jC ?_|refine jD ?_|refine jE ?_|refine jF ?_|refine jG ?_|refine jH ?_|refine jI ?_|refine jJ ?_|refine jK ?_|refine jL ?_|refine jM (by assumption) ?_|refine jN (by assumption) rfl ?_|refine jO (by assumption) ?_|refine jP (by assumption) rfl ?_|refine jQ ?_|refine jR ?_|refine jS ?_|refine jT ?_|refine jU (by assumption) rfl ?_))
    refine M.loop_i (σ := Nat) (fun t vals w' => ∃ out : List Bool, vals = [vi t] ∧ t ≤ m ∧ out.length = l.length ∧ Blk w' w1.heap.size (out.map vb) ∧ (∀ j : Nat, j < l.length → out[j]? = some (sureN l j || decide ((j : Int) ∈ ys.take t))) ∧ Keep w4 w' (· = w1.heap.size)) (fun t => m - t) 0
      ⟨out, rfl, by omega, hol, b4, fun j hj => by rw [ho1 j hj]; simp, Keep.refl _ _⟩ ?_
    rintro t vals w5 K2 ⟨out5, rfl, ht, hol5, b5, ho5, k5⟩ hK2 _
    simp only [List.getD_cons_zero, List.getD_cons_succ]
    by_cases htm : t < m
    · obtain ⟨i, ei, hi1, hi2⟩ := hS.at (p := t) (by omega)
      have g5 := gcut.keep k5 (fun b hb h e => by have h : w2.heap.size ≤ b := h; have e : b = w1.heap.size := e; omega)
      (repeat (first|refine ja ?_|refine jb ?_|refine jc ?_|refine jd ?_|refine je ?_|refine jf ?_|refine jg ?_|refine jh ?_|refine ji ?_|refine jj ?_|refine jk ?_|refine jl ?_|refine jm ?_|refine jn ?_|refine jo ?_|refine jp ?_|refine jq ?_|refine jr ?_|refine js ?_|refine jt ?_|refine ju ?_|refine jv ?_|refine jw ?_|refine jx ?_|refine jy ?_|refine jz ?_|refine jA ?_|refine jB ?_|refine jC ?_|refine jD ?_|refine jE ?_|refine jF ?_|refine jG ?_|refine jH ?_|refine jI ?_|refine jJ ?_|refine jK ?_|refine jL ?_|refine jM (by assumption) ?_|refine jN (by assumption) rfl ?_|refine jO (by assumption) ?_|refine jP (by assumption) rfl ?_|refine jQ ?_|refine jR ?_|refine jS ?_|refine jT ?_|refine jU (by assumption) rfl ?_))
      refine M.getI_i g5 (by omega) (by omega) (fun ad hcc => ?_)
      have eft : fn (ys.take m) ((t : Int)).toNat = (i : Int) := by
        rw [Int.toNat_natCast, ← ei]
        unfold fn
        rw [List.getD_eq_getElem?_getD, List.getD_eq_getElem?_getD, List.getElem?_take, if_pos htm]
      rw [eft] at hcc
      (repeat (first|refine ja ?_|refine jb ?_|refine jc ?_|refine jd ?_|refine je ?_|refine jf ?_|refine jg ?_|refine jh ?_|refine ji ?_|refine jj ?_|refine jk ?_|refine jl ?_|refine jm ?_|refine jn ?_|refine jo ?_|refine jp ?_|refine jq ?_|refine jr ?_|refine js ?_|refine jt ?_|refine ju ?_|refine jv ?_|refine jw ?_|refine jx ?_|refine jy ?_|refine jz ?_|refine jA ?_|refine jB ?_|refine jC ?_|refine jD ?_|refine jE ?_|refine jF ?_|refine jG ?_|refine jH ?_|refine jI ?_|refine jJ ?_|refine jK ?_|refine jL ?_|refine jM (by assumption) ?_|refine jN (by assumption) rfl ?_|refine jO (by assumption) ?_|refine jP (by assumption) rfl ?_|refine jQ ?_|refine jR ?_|refine jS ?_|refine jT ?_|refine jU (by assumption) rfl ?_))
      refine M.idx_i (by omega) (by omega) ?_
      simp only [Nat.zero_add, Nat.mul_one, Int.toNat_natCast]
      refine M.store_i b5 (by rw [List.length_map]; omega) rfl (fun w6 b6 k6 s6 => ?_)
      (repeat (first|refine ja ?_|refine jb ?_|refine jc ?_|refine jd ?_|refine je ?_|refine jf ?_|refine jg ?_|refine jh ?_|refine ji ?_|refine jj ?_|refine jk ?_|refine jl ?_|refine jm ?_|refine jn ?_|refine jo ?_|refine jp ?_|refine jq ?_|refine jr ?_|refine js ?_|refine jt ?_|refine ju ?_|refine jv ?_|refine jw ?_|refine jx ?_|refine jy ?_|refine jz ?_|refine jA ?_|refine jB ?_|refine jC ?_|refine jD ?_|refine jE ?_|refine jF ?_|refine jG ?_|refine jH ?_|refine jI ?_|refine jJ ?_|refine jK ?_|refine jL ?_|refine jM (by assumption) ?_|refine jN (by assumption) rfl ?_|refine jO (by assumption) ?_|refine jP (by assumption) rfl ?_|refine jQ ?_|refine jR ?_|refine jS ?_|refine jT ?_|refine jU (by assumption) rfl ?_))
      refine hK2 (t + 1) _ _ (by omega) ⟨out5.set i true, rfl, by omega, by rw [List.length_set]; exact hol5, by rw [List.map_set]; exact b6, fun j hj => ?_, k5.trans k6 (fun _ _ h => h)⟩
      have htt : ys.take (t + 1) = ys.take t ++ [(i : Int)] := by
        rw [List.take_add_one, fn_get (show t < ys.length by omega), ei]; rfl
      rw [htt, List.getElem?_set]
      by_cases e : i = j
      · subst e
        rw [if_pos rfl, if_pos (by omega)]
        simp
      · rw [if_neg e, ho5 j hj]
        have : ¬ (j : Int) = i := by omega
        simp [this]
    · have e : t = m := by omega
      subst e
      (repeat (first|refine ja ?_|refine jb ?_|refine jc ?_|refine jd ?_|refine je ?_|refine jf ?_|refine jg ?_|refine jh ?_|refine ji ?_|refine jj ?_|refine jk ?_|refine jl ?_|refine jm ?_|refine jn ?_|refine jo ?_|refine jp ?_|refine jq ?_|refine jr ?_|refine js ?_|refine jt ?_|refine ju ?_|refine jv ?_|refine jw ?_|refine jx ?_|refine jy ?_|refine jz ?_|refine jA ?_|refine jB ?_|refine jC ?_|refine jD ?_|refine jE ?_|refine jF ?_|refine jG ?_|refine jH ?_|refine jI ?_|refine jJ ?_|refine jK ?_|refine jL ?_|refine jM (by assumption) ?_|refine jN (by assumption) rfl ?_|refine jO (by assumption) ?_|refine jP (by assumption) rfl ?_|refine jQ ?_|refine jR ?_|refine jS ?_|refine jT ?_|refine jU (by assumption) rfl ?_))
      have hk := hS.kept (m := t) (by omega) hol5 ho5
      subst hk
      refine ⟨⟨_, _, by rw [kept_len], Row.of_blk' b5 (by have := k1.size; show w.heap.size ≤ w1.heap.size; omega), by rw [kept_len]; exact Nat.le_refl _⟩, ⟨ys, hS⟩, k04.trans k5 (fun b hb h => by have h : b = w1.heap.size := h; omega)⟩
end
end Go.Proofs.Ythcfmfkigioaeaa
