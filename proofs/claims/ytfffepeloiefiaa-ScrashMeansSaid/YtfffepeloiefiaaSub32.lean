import Derived.Test.YtfffepeloiefiaaSub32p
import Derived.Test.YtfffepeloiefiaaDev36
namespace Go.Proofs.Ytfffepeloiefiaa
open Go.Mw
set_option linter.unusedVariables false
set_option linter.unusedSimpArgs false
set_option maxRecDepth 100000
attribute [local irreducible] M.val M.unit M.next M.pick M.new M.nilCheck M.load1 M.loadA M.store M.fieldAddr M.indexSl M.indexArr M.slice M.makeSlice M.buildSlice M.len M.lenS M.cap M.append M.extract M.conv M.not M.neg M.bin M.shift M.eqB M.eqNil M.call M.callv M.gd M.share M.cond M.loop M.draw pureW readW Ret
/-! breakwater/breakwaterref32.bit: function 21 -/
def sh21 (x0 x1 : Value) (R : Kt) (w : World) : Prop :=
  M.conv .u64 x1 (fun t7 w =>
  M.shift .shr x0 t7 (fun t8 w =>
  M.bin .and t8 (Value.int IntKind.i64 1) (fun t9 w =>
  M.bin .eql t9 (Value.int IntKind.i64 1) (fun t10 w =>
  R t10 w) w) w) w) w
theorem ok21 (x0 x1 : Value) (R : Kt) (w : World) (h : sh21 x0 x1 R w) : Ret Try.prog 21 #[x0, x1] w R :=
  ret_mk <| calls_of_comp mixed (c := Try.f21.body.getD .skip) (args := [x0, x1]) (rs := [(ResultVar.tmp 4)]) (Ann.seq Ann.text (Ann.seq Ann.text Ann.leaf))
    Try.func21 (by kernel_rfl) (by kernel_rfl)
    (Eq.mp (by kernel_rfl) h)
/-! breakwater/breakwaterref32.fits: function 31 -/
def sh31 (x0 x1 x2 : Value) (R : Kt) (w : World) : Prop :=
  M.loop [(Value.int IntKind.i64 0)] (fun s1 K1 w => ∀ _ : List Value,
  M.len x0 (fun t10 w =>
  M.bin .lss (s1.getD 0 undef) t10 (fun t11 w =>
  M.cond t11
  (M.indexSl 3 x0 (s1.getD 0 undef) (fun t16 w =>
  M.fieldAddr 2 t16 (fun t17 w =>
  M.load1 t17 (fun t18 w =>
  M.bin .lss t18 x2 (fun t20 w =>
  M.gd t20 true (fun k w => k x1 w) (fun t22 w =>
  M.gd t20 true (fun k w => k (s1.getD 0 undef) w) (fun t23 w =>
  M.gd t20 true (fun k w => M.call Try.prog 21 #[t22, t23] k w) (fun t24 w =>
  M.gd t20 true (fun k w => M.not t24 k w) (fun t25 w =>
  M.pick t20 t25 (Value.bool false) (fun t26 w =>
  M.gd t26 false (fun k w => k x0 w) (fun t28 w =>
  M.gd t26 false (fun k w => k (s1.getD 0 undef) w) (fun t29 w =>
  M.gd t26 false (fun k w => M.indexSl 3 t28 t29 k w) (fun t30 w =>
  M.gd t26 false (fun k w => M.fieldAddr 2 t30 k w) (fun t31 w =>
  M.gd t26 false (fun k w => M.load1 t31 k w) (fun t32 w =>
  M.gd t26 false (fun k w => k x2 w) (fun t33 w =>
  M.gd t26 false (fun k w => M.bin .gtr t32 t33 k w) (fun t34 w =>
  M.gd t26 false (fun k w => k t34 w) (fun t35 w =>
  M.gd t35 true (fun k w => k x1 w) (fun t36 w =>
  M.gd t35 true (fun k w => k (s1.getD 0 undef) w) (fun t37 w =>
  M.gd t35 true (fun k w => M.call Try.prog 21 #[t36, t37] k w) (fun t38 w =>
  M.gd t26 false (fun k w => M.pick t35 t38 (Value.bool false) k w) (fun t39 w =>
  M.pick t26 (Value.bool true) t39 (fun t40 w =>
  M.cond t40
  (R (Value.bool false) w)
  (M.bin .add (s1.getD 0 undef) (Value.int IntKind.i64 1) (fun t13 w =>
  K1 [t13] w) w)) w) w) w) w) w) w) w) w) w) w) w) w) w) w) w) w) w) w) w) w) w) w)
  (R (Value.bool true) w)) w) w) w
theorem ok31 (x0 x1 x2 : Value) (R : Kt) (w : World) (h : sh31 x0 x1 x2 R w) : Ret Try.prog 31 #[x0, x1, x2] w R :=
  ret_mk <| calls_of_comp mixed (c := Try.f31.body.getD .skip) (args := [x0, x1, x2]) (rs := [(ResultVar.tmp 6)]) (Ann.seq Ann.text (Ann.seq (Ann.seq Ann.text (Ann.block (Ann.loop [7] [6, 8, 9, 10, 11, 12, 13, 14, 15, 16, 17, 18, 19, 20, 21, 22, 23, 24, 25, 26, 27, 28, 29, 30, 31, 32, 33, 34, 35, 36, 37, 38, 39, 40] (Ann.seq (Ann.seq Ann.text (Ann.cond Ann.leaf Ann.leaf)) (Ann.seq (Ann.block (Ann.seq Ann.text (Ann.cond (Ann.seq Ann.text Ann.leaf) Ann.leaf))) Ann.text))))) (Ann.seq Ann.text Ann.leaf)))
    Try.func31 (by kernel_rfl) (by kernel_rfl)
    (Eq.mp (by kernel_rfl) h)
/-! breakwater/breakwaterref32.Allowed: function 20 -/
def sh20 (x0 x1 : Value) (R : Kt) (w : World) : Prop :=
  M.new 37 (Value.cells x0) (fun t2 w =>
  M.fieldAddr 1 t2 (fun t7 w =>
  M.load1 t7 (fun t8 w =>
  M.len t8 (fun t9 w =>
  M.bin .gtr t9 (Value.int IntKind.i64 20) (fun t11 w =>
  M.gd t11 false (fun k w => k x1 w) (fun t13 w =>
  M.gd t11 false (fun k w => M.bin .lss t13 (Value.int IntKind.i64 0) k w) (fun t14 w =>
  M.pick t11 (Value.bool true) t14 (fun t15 w =>
  M.gd t15 false (fun k w => k x1 w) (fun t17 w =>
  M.gd t15 false (fun k w => k t9 w) (fun t18 w =>
  M.gd t15 false (fun k w => M.conv .u64 t18 k w) (fun t19 w =>
  M.gd t15 false (fun k w => M.shift .shl (Value.int IntKind.i64 1) t19 k w) (fun t20 w =>
  M.gd t15 false (fun k w => M.bin .geq t17 t20 k w) (fun t21 w =>
  M.pick t15 (Value.bool true) t21 (fun t22 w =>
  M.cond t22
  (R (Value.bool false) w)
  (M.bin .eql t9 (Value.int IntKind.i64 0) (fun t24 w =>
  M.cond t24
  (R (Value.bool true) w)
  (M.loop [(Value.int IntKind.i64 0)] (fun s1 K1 w => ∀ _ : List Value,
  M.bin .lss (s1.getD 0 undef) t9 (fun t27 w =>
  M.cond t27
  (M.draw (fun w =>
  M.fieldAddr 1 t2 (fun t30 w =>
  M.load1 t30 (fun t31 w =>
  M.fieldAddr 1 t2 (fun t33 w =>
  M.load1 t33 (fun t34 w =>
  M.indexSl 3 t34 (s1.getD 0 undef) (fun t36 w =>
  M.fieldAddr 2 t36 (fun t37 w =>
  M.load1 t37 (fun t38 w =>
  M.call Try.prog 31 #[t31, x1, t38] (fun t39 w =>
  ((M.load1 t33 (fun v' _ => v' = t34) w) ∧ M.cond t39
  (R (Value.bool true) w)
  (M.bin .add (s1.getD 0 undef) (Value.int IntKind.i64 1) (fun t29 w =>
  K1 [t29] w) w))) w) w) w) w) w) w) w) w) w)
  (R (Value.bool false) w)) w) w)) w)) w) w) w) w) w) w) w) w) w) w) w) w) w) w
theorem ok20 (x0 x1 : Value) (R : Kt) (w : World) (h : sh20 x0 x1 R w) : Ret Try.prog 20 #[x0, x1] w R :=
  ret_mk <| calls_of_comp mixed (c := Try.f20.body.getD .skip) (args := [x0, x1]) (rs := [(ResultVar.tmp 4)]) (Ann.seq Ann.text (Ann.seq Ann.text (Ann.seq (Ann.seq Ann.text (Ann.cond (Ann.seq Ann.text Ann.leaf) Ann.leaf)) (Ann.seq (Ann.seq Ann.text (Ann.cond (Ann.seq Ann.text Ann.leaf) Ann.leaf)) (Ann.seq (Ann.seq Ann.text (Ann.block (Ann.loop [6] [4, 25, 26, 27, 28, 29, 30, 31, 32, 33, 34, 35, 36, 37, 38, 39] (Ann.seq (Ann.seq Ann.text (Ann.cond Ann.leaf Ann.leaf)) (Ann.seq (Ann.block (Ann.seq (Ann.draw (Sch.take 0 (Sch.take 1 (Sch.take 2 (Sch.take 3 (Sch.take 4 (Sch.take 5 (Sch.take 6 (Sch.take 7 (Sch.take 8 (Sch.one 9 Sch.done))))))))))) (Ann.cond (Ann.seq Ann.text Ann.leaf) Ann.leaf))) Ann.text))))) (Ann.seq Ann.text Ann.leaf))))))
    Try.func20 (by kernel_rfl) (by kernel_rfl)
    (Eq.mp (by kernel_rfl) h)
/-! breakwater/breakwaterref32.Masks: function 11 -/
def sh11 (x0 : Value) (R : Kt) (w : World) : Prop :=
  M.new 37 (Value.cells x0) (fun t1 w =>
  M.fieldAddr 1 t1 (fun t5 w =>
  M.load1 t5 (fun t6 w =>
  M.len t6 (fun t7 w =>
  M.bin .gtr t7 (Value.int IntKind.i64 12) (fun t8 w =>
  M.cond t8
  (R (Value.slice none 0 0) w)
  (M.loop [(Value.slice none 0 0), (Value.int IntKind.i64 0)] (fun s1 K1 w => ∀ _ : List Value,
  M.fieldAddr 1 t1 (fun t10 w =>
  M.load1 t10 (fun t11 w =>
  M.len t11 (fun t12 w =>
  M.conv .u64 t12 (fun t13 w =>
  M.shift .shl (Value.int IntKind.i64 1) t13 (fun t14 w =>
  M.bin .lss (s1.getD 1 undef) t14 (fun t15 w =>
  M.cond t15
  (M.share (fun K2 w =>
  M.loadA 3 t1 (fun t18 w =>
  M.call Try.prog 20 #[t18, (s1.getD 1 undef)] (fun t20 w =>
  M.cond t20
  (M.buildSlice 3 1 #[.int .i64 0] 1 [(0, (s1.getD 1 undef))] (fun t23 w =>
  M.append 3 1 8 #[.int .i64 0] (s1.getD 0 undef) t23 (fun t24 w =>
  K2 [t24] w) w) w)
  (K2 [(s1.getD 0 undef)] w)) w) w) (fun s2 w => ∀ _ : List Value,
  M.bin .add (s1.getD 1 undef) (Value.int IntKind.i64 1) (fun t17 w =>
  K1 [(s2.getD 0 undef), t17] w) w) w)
  (R (s1.getD 0 undef) w)) w) w) w) w) w) w) w)) w) w) w) w) w
theorem ok11 (x0 : Value) (R : Kt) (w : World) (h : sh11 x0 R w) : Ret Try.prog 11 #[x0] w R :=
  ret_mk <| calls_of_comp mixed (c := Try.f11.body.getD .skip) (args := [x0]) (rs := [(ResultVar.tmp 2)]) (Ann.seq Ann.text (Ann.seq (Ann.seq Ann.text (Ann.cond (Ann.seq Ann.text Ann.leaf) Ann.leaf)) (Ann.seq Ann.text (Ann.seq (Ann.seq Ann.text (Ann.block (Ann.loop [3, 4] [9, 10, 11, 12, 13, 14, 15, 16, 17, 18, 19, 20, 21, 22, 23, 24] (Ann.seq (Ann.seq Ann.text (Ann.cond Ann.leaf Ann.leaf)) (Ann.seq (Ann.jblock [3] [18, 19, 20, 21, 22, 23, 24] (Ann.seq Ann.text (Ann.cond Ann.text Ann.leaf))) Ann.text))))) (Ann.seq Ann.text Ann.leaf)))))
    Try.func11 (by kernel_rfl) (by kernel_rfl)
    (Eq.mp (by kernel_rfl) h)
/-! breakwater/subset.Allowed: function 58 -/
def sh58 (x0 x1 : Value) (R : Kt) (w : World) : Prop :=
  M.new 37 (Value.cells x0) (fun t2 w =>
  M.fieldAddr 1 t2 (fun t10 w =>
  M.load1 t10 (fun t11 w =>
  M.len t11 (fun t12 w =>
  M.bin .gtr t12 (Value.int IntKind.i64 20) (fun t14 w =>
  M.gd t14 false (fun k w => k x1 w) (fun t16 w =>
  M.gd t14 false (fun k w => M.bin .lss t16 (Value.int IntKind.i64 0) k w) (fun t17 w =>
  M.pick t14 (Value.bool true) t17 (fun t18 w =>
  M.gd t18 false (fun k w => k x1 w) (fun t20 w =>
  M.gd t18 false (fun k w => k t12 w) (fun t21 w =>
  M.gd t18 false (fun k w => M.shift .shr t20 t21 k w) (fun t22 w =>
  M.gd t18 false (fun k w => M.bin .neq t22 (Value.int IntKind.i64 0) k w) (fun t23 w =>
  M.pick t18 (Value.bool true) t23 (fun t24 w =>
  M.cond t24
  (R (Value.bool false) w)
  (M.fieldAddr 1 t2 (fun t25 w =>
  M.load1 t25 (fun t26 w =>
  M.len t26 (fun t27 w =>
  M.loop [(Value.int IntKind.i64 (-9223372036854775808)), (Value.int IntKind.i64 9223372036854775807), (Value.int IntKind.i64 0)] (fun s1 K1 w => ∀ _ : List Value,
  M.bin .lss (s1.getD 2 undef) t27 (fun t29 w =>
  M.cond t29
  (M.share (fun K2 w =>
  M.indexSl 3 t26 (s1.getD 2 undef) (fun t31 w =>
  M.loadA 3 t31 (fun t32 w =>
  M.new 59 #[.int .i64 0, .int .u64 0, .int .i64 0] (fun t9 w =>
  M.store 3 t9 t32 (fun _ w =>
  M.shift .shr x1 (s1.getD 2 undef) (fun t35 w =>
  M.bin .and t35 (Value.int IntKind.i64 1) (fun t36 w =>
  M.bin .eql t36 (Value.int IntKind.i64 1) (fun t37 w =>
  M.cond t37
  (M.fieldAddr 2 t9 (fun t39 w =>
  M.load1 t39 (fun t40 w =>
  M.next Try.prog (builtin .max #[3, 3] 3 #[false, false] #[(s1.getD 0 undef), t40]) (fun t41 w =>
  K2 [t41, (s1.getD 1 undef)] w) w) w) w)
  (M.fieldAddr 2 t9 (fun t43 w =>
  M.load1 t43 (fun t44 w =>
  M.next Try.prog (builtin .min #[3, 3] 3 #[false, false] #[(s1.getD 1 undef), t44]) (fun t45 w =>
  K2 [(s1.getD 0 undef), t45] w) w) w) w)) w) w) w) w) w) w) w) (fun s2 w => ∀ _ : List Value,
  M.bin .add (s1.getD 2 undef) (Value.int IntKind.i64 1) (fun t46 w =>
  K1 [(s2.getD 0 undef), (s2.getD 1 undef), t46] w) w) w)
  (M.bin .leq (s1.getD 0 undef) (s1.getD 1 undef) (fun t49 w =>
  R t49 w) w)) w) w) w) w) w)) w) w) w) w) w) w) w) w) w) w) w) w) w
theorem ok58 (x0 x1 : Value) (R : Kt) (w : World) (h : sh58 x0 x1 R w) : Ret Try.prog 58 #[x0, x1] w R :=
  ret_mk <| calls_of_comp mixed (c := Try.f58.body.getD .skip) (args := [x0, x1]) (rs := [(ResultVar.tmp 4)]) (Ann.seq Ann.text (Ann.seq Ann.text (Ann.seq (Ann.seq Ann.text (Ann.cond (Ann.seq Ann.text Ann.leaf) Ann.leaf)) (Ann.seq Ann.text (Ann.seq (Ann.seq Ann.text (Ann.block (Ann.loop [6, 7, 28] [8, 9, 29, 30, 31, 32, 33, 34, 35, 36, 37, 38, 39, 40, 41, 42, 43, 44, 45, 46] (Ann.seq Ann.text (Ann.seq (Ann.cond Ann.leaf Ann.leaf) (Ann.seq (Ann.jblock [6, 7] [8, 9, 30, 31, 32, 33, 34, 35, 36, 37, 38, 39, 40, 41, 42, 43, 44, 45] (Ann.seq Ann.text (Ann.seq Ann.text (Ann.cond Ann.text Ann.text)))) Ann.text)))))) (Ann.seq Ann.text Ann.leaf))))))
    Try.func58 (by kernel_rfl) (by kernel_rfl)
    (Eq.mp (by kernel_rfl) h)
/-! breakwater/breakwaterref24.Words: function 13 -/
def sh13 (x0 x1 : Value) (R : Kt) (w : World) : Prop :=
  M.len x0 (fun t7 w =>
  M.len x1 (fun t9 w =>
  M.bin .neq t7 t9 (fun t10 w =>
  M.cond t10
  (R (Value.bool false) w)
  (M.loop [(Value.int IntKind.i64 0)] (fun s1 K1 w => ∀ _ : List Value,
  M.len x0 (fun t13 w =>
  M.bin .lss (s1.getD 0 undef) t13 (fun t14 w =>
  M.cond t14
  (M.draw (fun w =>
  M.indexSl 1 x0 (s1.getD 0 undef) (fun t19 w =>
  M.load1 t19 (fun t20 w =>
  M.indexSl 1 x1 (s1.getD 0 undef) (fun t23 w =>
  M.load1 t23 (fun t24 w =>
  M.bin .neq t20 t24 (fun t25 w =>
  M.cond t25
  (R (Value.bool false) w)
  (M.bin .add (s1.getD 0 undef) (Value.int IntKind.i64 1) (fun t16 w =>
  K1 [t16] w) w)) w) w) w) w) w) w)
  (R (Value.bool true) w)) w) w) w)) w) w) w
theorem ok13 (x0 x1 : Value) (R : Kt) (w : World) (h : sh13 x0 x1 R w) : Ret Try.prog 13 #[x0, x1] w R :=
  ret_mk <| calls_of_comp mixed (c := Try.f13.body.getD .skip) (args := [x0, x1]) (rs := [(ResultVar.tmp 4)]) (Ann.seq Ann.text (Ann.seq (Ann.seq Ann.text (Ann.cond (Ann.seq Ann.text Ann.leaf) Ann.leaf)) (Ann.seq (Ann.seq Ann.text (Ann.block (Ann.loop [5] [4, 11, 12, 13, 14, 15, 16, 17, 18, 19, 20, 21, 22, 23, 24, 25] (Ann.seq (Ann.seq Ann.text (Ann.cond Ann.leaf Ann.leaf)) (Ann.seq (Ann.block (Ann.seq (Ann.draw (Sch.take 0 (Sch.take 1 (Sch.take 2 (Sch.take 3 (Sch.take 4 (Sch.take 5 (Sch.take 6 (Sch.take 7 (Sch.take 8 Sch.done)))))))))) (Ann.cond (Ann.seq Ann.text Ann.leaf) Ann.leaf))) Ann.text))))) (Ann.seq Ann.text Ann.leaf))))
    Try.func13 (by kernel_rfl) (by kernel_rfl)
    (Eq.mp (by kernel_rfl) h)
/-! breakwater/breakwaterref31.Put: function 22 -/
def sh22 (x0 x1 : Value) (R : Kt) (w : World) : Prop :=
  M.append 30 1 8 #[.int .u64 0] (Value.slice none 0 0) x0 (fun t8 w =>
  M.loop [(Value.int IntKind.i64 0)] (fun s1 K1 w => ∀ _ : List Value,
  M.len x1 (fun t11 w =>
  M.bin .lss (s1.getD 0 undef) t11 (fun t12 w =>
  M.cond t12
  (M.share (fun K2 w =>
  M.indexSl 3 x1 (s1.getD 0 undef) (fun t17 w =>
  M.fieldAddr 0 t17 (fun t18 w =>
  M.load1 t18 (fun t19 w =>
  M.bin .geq t19 (Value.int IntKind.i64 0) (fun t20 w =>
  M.gd t20 true (fun k w => k x1 w) (fun t22 w =>
  M.gd t20 true (fun k w => k (s1.getD 0 undef) w) (fun t23 w =>
  M.gd t20 true (fun k w => M.indexSl 3 t22 t23 k w) (fun t24 w =>
  M.gd t20 true (fun k w => M.fieldAddr 0 t24 k w) (fun t25 w =>
  M.gd t20 true (fun k w => M.load1 t25 k w) (fun t26 w =>
  M.gd t20 true (fun k w => k t8 w) (fun t27 w =>
  M.gd t20 true (fun k w => M.len t27 k w) (fun t28 w =>
  M.gd t20 true (fun k w => M.bin .lss t26 t28 k w) (fun t29 w =>
  M.pick t20 t29 (Value.bool false) (fun t30 w =>
  M.cond t30
  (M.draw (fun w =>
  M.indexSl 3 x1 (s1.getD 0 undef) (fun t34 w =>
  M.fieldAddr 0 t34 (fun t35 w =>
  M.load1 t35 (fun t36 w =>
  M.indexSl 3 x1 (s1.getD 0 undef) (fun t39 w =>
  M.fieldAddr 1 t39 (fun t40 w =>
  M.load1 t40 (fun t41 w =>
  M.indexSl 1 t8 t36 (fun t42 w =>
  M.store 1 t42 t41 (fun _ w =>
  K2 [] w) w) w) w) w) w) w) w) w) w)
  (K2 [] w)) w) w) w) w) w) w) w) w) w) w) w) w) w) (fun s2 w => ∀ _ : List Value,
  M.bin .add (s1.getD 0 undef) (Value.int IntKind.i64 1) (fun t14 w =>
  K1 [t14] w) w) w)
  (R t8 w)) w) w) w) w
theorem ok22 (x0 x1 : Value) (R : Kt) (w : World) (h : sh22 x0 x1 R w) : Ret Try.prog 22 #[x0, x1] w R :=
  ret_mk <| calls_of_comp mixed (c := Try.f22.body.getD .skip) (args := [x0, x1]) (rs := [(ResultVar.tmp 4)]) (Ann.seq Ann.text (Ann.seq Ann.text (Ann.seq (Ann.seq Ann.text (Ann.block (Ann.loop [6] [9, 10, 11, 12, 13, 14, 15, 16, 17, 18, 19, 20, 21, 22, 23, 24, 25, 26, 27, 28, 29, 30, 31, 32, 33, 34, 35, 36, 37, 38, 39, 40, 41, 42] (Ann.seq (Ann.seq Ann.text (Ann.cond Ann.leaf Ann.leaf)) (Ann.seq (Ann.jblock [] [15, 16, 17, 18, 19, 20, 21, 22, 23, 24, 25, 26, 27, 28, 29, 30, 31, 32, 33, 34, 35, 36, 37, 38, 39, 40, 41, 42] (Ann.seq Ann.text (Ann.cond (Ann.draw (Sch.take 0 (Sch.take 1 (Sch.take 2 (Sch.take 3 (Sch.take 4 (Sch.take 5 (Sch.take 6 (Sch.take 7 (Sch.take 8 (Sch.take 9 (Sch.take 10 (Sch.take 11 (Sch.one 12 Sch.done)))))))))))))) Ann.leaf))) Ann.text))))) (Ann.seq Ann.text Ann.leaf))))
    Try.func22 (by kernel_rfl) (by kernel_rfl)
    (Eq.mp (by kernel_rfl) h)
/-! breakwater/breakwaterref32.Image: function 14 -/
def sh14 (x0 x1 : Value) (R : Kt) (w : World) : Prop :=
  M.new 37 (Value.cells x0) (fun t2 w =>
  M.loop [(Value.slice none 0 0), (Value.int IntKind.i64 0)] (fun s1 K1 w => ∀ _ : List Value,
  M.fieldAddr 1 t2 (fun t8 w =>
  M.load1 t8 (fun t9 w =>
  M.len t9 (fun t10 w =>
  M.bin .lss (s1.getD 1 undef) t10 (fun t11 w =>
  M.gd t11 true (fun k w => k (s1.getD 1 undef) w) (fun t13 w =>
  M.gd t11 true (fun k w => M.bin .lss t13 (Value.int IntKind.i64 63) k w) (fun t14 w =>
  M.pick t11 t14 (Value.bool false) (fun t15 w =>
  M.cond t15
  (M.share (fun K2 w =>
  M.call Try.prog 21 #[x1, (s1.getD 1 undef)] (fun t20 w =>
  M.cond t20
  (M.fieldAddr 1 t2 (fun t22 w =>
  M.load1 t22 (fun t23 w =>
  M.indexSl 3 t23 (s1.getD 1 undef) (fun t25 w =>
  M.loadA 3 t25 (fun t26 w =>
  M.buildSlice 59 3 #[.int .i64 0, .int .u64 0, .int .i64 0] 1 [(0, t26)] (fun t27 w =>
  M.append 59 3 24 #[.int .i64 0, .int .u64 0, .int .i64 0] (s1.getD 0 undef) t27 (fun t28 w =>
  K2 [t28] w) w) w) w) w) w) w)
  (K2 [(s1.getD 0 undef)] w)) w) (fun s2 w => ∀ _ : List Value,
  M.bin .add (s1.getD 1 undef) (Value.int IntKind.i64 1) (fun t17 w =>
  K1 [(s2.getD 0 undef), t17] w) w) w)
  (M.fieldAddr 0 t2 (fun t29 w =>
  M.load1 t29 (fun t30 w =>
  M.call Try.prog 22 #[t30, (s1.getD 0 undef)] (fun t32 w =>
  R t32 w) w) w) w)) w) w) w) w) w) w) w) w) w
theorem ok14 (x0 x1 : Value) (R : Kt) (w : World) (h : sh14 x0 x1 R w) : Ret Try.prog 14 #[x0, x1] w R :=
  ret_mk <| calls_of_comp mixed (c := Try.f14.body.getD .skip) (args := [x0, x1]) (rs := [(ResultVar.tmp 4)]) (Ann.seq Ann.text (Ann.seq Ann.text (Ann.seq (Ann.seq Ann.text (Ann.block (Ann.loop [5, 6] [7, 8, 9, 10, 11, 12, 13, 14, 15, 16, 17, 18, 19, 20, 21, 22, 23, 24, 25, 26, 27, 28] (Ann.seq (Ann.seq Ann.text (Ann.cond Ann.leaf Ann.leaf)) (Ann.seq (Ann.jblock [5] [18, 19, 20, 21, 22, 23, 24, 25, 26, 27, 28] (Ann.seq Ann.text (Ann.cond Ann.text Ann.leaf))) Ann.text))))) (Ann.seq Ann.text Ann.leaf))))
    Try.func14 (by kernel_rfl) (by kernel_rfl)
    (Eq.mp (by kernel_rfl) h)

theorem pow_cast (n : Nat) (h : n ≤ 64) : (2 : Int) ^ (min n 64) = ((2 ^ n : Nat) : Int) := by
  rw [Nat.min_eq_left h]
  exact (Int.natCast_pow 2 n).symm
theorem pow_le20 {n : Nat} (h : n ≤ 20) : 0 < 2 ^ n ∧ 2 ^ n ≤ 1048576 := by
  have h1 : 2 ^ n ≤ 2 ^ 20 := Nat.pow_le_pow_right (by omega) h
  exact ⟨Nat.pow_pos (by omega), by omega⟩
theorem M.shl1_i {k : Kt} {w : World} {d : IntKind} {n : Nat} (hn : n ≤ 20) (h : k (vi ((2 ^ n : Nat) : Int)) w) : M.shift .shl (vi 1) (.int d n) k w := by
  refine M.shift_i (v := vi ((2 ^ n : Nat) : Int)) ?_ h
  have hp := pow_le20 hn
  unfold ishift
  rw [if_neg (by omega)]
  simp only [Int.toNat_natCast]
  have e : (2 : Int) ^ (min n IntKind.i64.bits) = ((2 ^ n : Nat) : Int) := pow_cast n (by omega)
  rw [e, Int.one_mul, wrap_i64 (by omega) (by omega)]
theorem fdiv_zero {m : Int} {n : Nat} (h0 : 0 ≤ m) (hn : n ≤ 20) : decide (m.fdiv (2 ^ (min n 64)) ≠ 0) = decide (((2 ^ n : Nat) : Int) ≤ m) := by
  have hp := pow_le20 hn
  rw [pow_cast n (by omega), Int.fdiv_eq_ediv_of_nonneg _ (by omega)]
  refine decide_eq_decide.2 ⟨fun h => ?_, fun h e => ?_⟩
  · apply Classical.byContradiction
    intro hc
    exact h (Int.ediv_eq_zero_of_lt h0 (by omega))
  · have h1 := Int.emod_add_mul_ediv m ((2 ^ n : Nat) : Int)
    have h2 := Int.emod_lt_of_pos m (show (0 : Int) < ((2 ^ n : Nat) : Int) by omega)
    rw [e, Int.mul_zero] at h1
    omega
theorem ofI_natM {n : Int} (h0 : 0 ≤ n) (h1 : n ≤ 1000000) : (BitVec.ofInt 64 n).toNat = n.toNat := by
  rw [BitVec.toNat_ofInt]
  omega
theorem M.word_nat {k : Kt} {w : World} {n : Nat} (h1 : n ≤ 1000000) (h : k (.int .u64 (n : Int)) w) : M.conv .u64 (vi n) k w := by
  refine M.toWord_i ?_
  have e : vw (BitVec.ofInt 64 (n : Int)) = .int .u64 (n : Int) := by
    show Value.int .u64 ((BitVec.ofInt 64 (n : Int)).toNat : Int) = _
    rw [ofI_natM (by omega) (by omega)]; rfl
  rw [e]; exact h
def epsP (l : List PD) : List Int := l.map PD.e
theorem eps_at {l : List PD} {i : Nat} (hi : i < l.length) : ∃ p, l[i]? = some p ∧ (epsP l).getD i 0 = p.e := by
  refine ⟨l[i], List.getElem?_eq_getElem hi, ?_⟩
  unfold epsP
  rw [List.getD_eq_getElem?_getD, List.getElem?_map, List.getElem?_eq_getElem hi]; rfl
theorem eps_len (l : List PD) : (epsP l).length = l.length := by simp [epsP]
theorem pd_one (x : PD) : ∀ y ∈ x.cells, y.oneCell' = true := by
  intro y hy
  simp only [PD.cells, List.mem_cons, List.not_mem_nil, or_false] at hy
  rcases hy with rfl | rfl | rfl <;> rfl
theorem M.loadPD_i {k : Kt} {w : World} {b o : Nat} {x : PD} (hc : ∀ (j : Nat) v, x.cells[j]? = some v → w.cell? ⟨b, o + j, none⟩ = some v) (h : k (.agg ⟨x.cells⟩) w) : M.loadA 3 (.pointer (some ⟨b, o, none⟩)) k w := by
  have := rdL_cells (w := w) (b := b) (o := o) (cs := x.cells) 3 0 (fun j hj => hc j _ (List.getElem?_eq_getElem hj)) rfl
  unfold M.loadA
  simp only [this]
  exact h
theorem M.idxPD_i {k : Kt} {w : World} {D : Nat → Prop} {A : Option Addr} {l : List PD} {c i : Nat} {x : PD} (hr : Row w D A (l.flatMap PD.cells)) (hx : l[i]? = some x)
    (h : ∀ b o, (∀ (j : Nat) v, x.cells[j]? = some v → w.cell? ⟨b, o + j, none⟩ = some v) → k (.pointer (some ⟨b, o, none⟩)) w) : M.indexSl 3 (.slice A l.length c) (vi i) k w :=
  M.idxF_i pd_len (by omega) hr rfl (by omega) (by rw [Int.toNat_natCast]; exact hx) h
theorem rbit_i (m : Int) (i : Nat) (hi : i ≤ 1000000) (w : World) : Ret Try.prog 21 #[vi m, vi i] w (fun r w' => r = .bool (bitZ m i) ∧ w' = w) := by
  refine ok21 _ _ _ _ ?_
  unfold sh21
  refine M.word_nat hi ?_
  refine M.shr_i ?_
  refine M.and1_i ?_
  refine M.eql_i ?_
  exact ⟨rfl, rfl⟩
section
variable {w : World} {D : Nat → Prop} {a b : Value} {l : List PD} {d : Dv}
theorem rfits_ret' {v : Value} (h : LN PD.cells w D v l) (hf : l.length ≤ 1000000) (m e : Int) :
    Ret Try.prog 31 #[v, vi m, vi e] w (fun r w' => (∃ t, r = .bool t ∧ (t = true ↔ fitP (epsP l) m e l.length)) ∧ w' = w) := by
  obtain ⟨A, c, rfl, hr, _⟩ := h
  refine ok31 _ _ _ _ _ ?_
  unfold sh31
  refine M.loop_i (σ := Nat) (fun i vals w' => vals = [vi i] ∧ i ≤ l.length ∧ fitP (epsP l) m e i ∧ w' = w) (fun i => l.length - i) 0 ⟨rfl, by omega, fun j hj => by omega, rfl⟩ ?_
  rintro i vals w1 K ⟨rfl, hi, hfi, rfl⟩ hK _
  simp only [List.getD_cons_zero, List.getD_cons_succ]
  by_cases hlt : i < l.length
  · obtain ⟨x, hx, hxe⟩ := eps_at hlt
    have yes : ¬ (((epsP l).getD i 0 < e ∧ bitZ m i = false) ∨ (e < (epsP l).getD i 0 ∧ bitZ m i = true)) → fitP (epsP l) m e (i + 1) := fun hh j hj => by
      by_cases e1 : j = i
      · rw [e1]; exact hh
      · exact hfi j (by omega)
    rw [hxe] at yes
    (repeat (first|refine ja ?_|refine jb ?_|refine jc ?_|refine jd ?_|refine je ?_|refine jf ?_|refine jg ?_|refine jh ?_|refine ji ?_|refine jj ?_|refine jk ?_|refine jl ?_|refine jm ?_|refine jn ?_|refine jo ?_|refine jp ?_|refine jq ?_|refine jr ?_|refine js ?_|refine jt ?_|refine ju ?_|refine jv ?_|refine jw ?_|refine jx ?_|refine jy ?_|refine jz ?_|refine jA ?_|refine jB ?_|refine jC ?_|refine jD ?_|refine jE ?_|refine jF ?_|refine jG ?_|refine jH ?_|refine jI ?_|refine jJ ?_|refine jK ?_|refine jL ?_|refine jM (by assumption) ?_|refine jN (by assumption) rfl ?_|refine jO (by assumption) ?_|refine jP (by assumption) rfl ?_|refine jQ ?_|refine jR ?_|refine jS ?_|refine jT ?_|refine jU (by assumption) rfl ?_))
    refine M.idxPD_i hr hx (fun b1 o1 hc => ?_)
    refine M.field_i ?_
    refine M.load_i (hc 2 _ rfl) ?_
    have bad : ((x.e < e ∧ bitZ m i = false) ∨ (e < x.e ∧ bitZ m i = true)) → (∃ t, Value.bool false = .bool t ∧ (t = true ↔ fitP (epsP l) m e l.length)) := fun hh => by
      refine ⟨false, rfl, ?_⟩
      constructor
      · intro h; simp at h
      · intro h
        have := h i hlt
        rw [hxe] at this
        exact (this hh).elim
    by_cases h1 : x.e < e
    · (repeat (first|refine ja ?_|refine jb ?_|refine jc ?_|refine jd ?_|refine je ?_|refine jf ?_|refine jg ?_|refine jh ?_|refine ji ?_|refine jj ?_|refine jk ?_|refine jl ?_|refine jm ?_|refine jn ?_|refine jo ?_|refine jp ?_|refine jq ?_|refine jr ?_|refine js ?_|refine jt ?_|refine ju ?_|refine jv ?_|refine jw ?_|refine jx ?_|refine jy ?_|refine jz ?_|refine jA ?_|refine jB ?_|refine jC ?_|refine jD ?_|refine jE ?_|refine jF ?_|refine jG ?_|refine jH ?_|refine jI ?_|refine jJ ?_|refine jK ?_|refine jL ?_|refine jM (by assumption) ?_|refine jN (by assumption) rfl ?_|refine jO (by assumption) ?_|refine jP (by assumption) rfl ?_|refine jQ ?_|refine jR ?_|refine jS ?_|refine jT ?_|refine jU (by assumption) rfl ?_))
      refine M.call_i (rbit_i m i (by omega) w1) ?_; rintro _ w2 ⟨rfl, rfl⟩
      cases hb : bitZ m i with
      | false =>
        (repeat (first|refine ja ?_|refine jb ?_|refine jc ?_|refine jd ?_|refine je ?_|refine jf ?_|refine jg ?_|refine jh ?_|refine ji ?_|refine jj ?_|refine jk ?_|refine jl ?_|refine jm ?_|refine jn ?_|refine jo ?_|refine jp ?_|refine jq ?_|refine jr ?_|refine js ?_|refine jt ?_|refine ju ?_|refine jv ?_|refine jw ?_|refine jx ?_|refine jy ?_|refine jz ?_|refine jA ?_|refine jB ?_|refine jC ?_|refine jD ?_|refine jE ?_|refine jF ?_|refine jG ?_|refine jH ?_|refine jI ?_|refine jJ ?_|refine jK ?_|refine jL ?_|refine jM (by assumption) ?_|refine jN (by assumption) rfl ?_|refine jO (by assumption) ?_|refine jP (by assumption) rfl ?_|refine jQ ?_|refine jR ?_|refine jS ?_|refine jT ?_|refine jU (by assumption) rfl ?_|refine jG ?_ (by decide)|refine jH ?_ (by decide)|refine jI ?_ (by decide)|refine jJ ?_ (by decide)|refine jC ?_ (by decide)|refine jy ?_ (by decide)))
        exact ⟨bad (.inl ⟨h1, hb⟩), rfl⟩
      | true =>
        (repeat (first|refine ja ?_|refine jb ?_|refine jc ?_|refine jd ?_|refine je ?_|refine jf ?_|refine jg ?_|refine jh ?_|refine ji ?_|refine jj ?_|refine jk ?_|refine jl ?_|refine jm ?_|refine jn ?_|refine jo ?_|refine jp ?_|refine jq ?_|refine jr ?_|refine js ?_|refine jt ?_|refine ju ?_|refine jv ?_|refine jw ?_|refine jx ?_|refine jy ?_|refine jz ?_|refine jA ?_|refine jB ?_|refine jC ?_|refine jD ?_|refine jE ?_|refine jF ?_|refine jG ?_|refine jH ?_|refine jI ?_|refine jJ ?_|refine jK ?_|refine jL ?_|refine jM (by assumption) ?_|refine jN (by assumption) rfl ?_|refine jO (by assumption) ?_|refine jP (by assumption) rfl ?_|refine jQ ?_|refine jR ?_|refine jS ?_|refine jT ?_|refine jU (by assumption) rfl ?_|refine jG ?_ (by decide)|refine jH ?_ (by decide)|refine jI ?_ (by decide)|refine jJ ?_ (by decide)|refine jC ?_ (by decide)|refine jy ?_ (by decide)))
        refine M.idxPD_i hr hx (fun b1 o1 hc => ?_)
        refine M.gd_ff ?_
        refine M.field_i ?_
        refine M.gd_ff ?_
        refine M.load_i (hc 2 _ rfl) ?_
        (repeat (first|refine ja ?_|refine jb ?_|refine jc ?_|refine jd ?_|refine je ?_|refine jf ?_|refine jg ?_|refine jh ?_|refine ji ?_|refine jj ?_|refine jk ?_|refine jl ?_|refine jm ?_|refine jn ?_|refine jo ?_|refine jp ?_|refine jq ?_|refine jr ?_|refine js ?_|refine jt ?_|refine ju ?_|refine jv ?_|refine jw ?_|refine jx ?_|refine jy ?_|refine jz ?_|refine jA ?_|refine jB ?_|refine jC ?_|refine jD ?_|refine jE ?_|refine jF ?_|refine jG ?_|refine jH ?_|refine jI ?_|refine jJ ?_|refine jK ?_|refine jL ?_|refine jM (by assumption) ?_|refine jN (by assumption) rfl ?_|refine jO (by assumption) ?_|refine jP (by assumption) rfl ?_|refine jQ ?_|refine jR ?_|refine jS ?_|refine jT ?_|refine jU (by assumption) rfl ?_|refine jG ?_ (by decide)|refine jH ?_ (by decide)|refine jI ?_ (by decide)|refine jJ ?_ (by decide)|refine jC ?_ (by decide)|refine jy ?_ (by decide)))
        exact hK (i + 1) _ _ (by omega) ⟨rfl, by omega, yes (by rw [hb]; simp; omega), rfl⟩
    · (repeat (first|refine ja ?_|refine jb ?_|refine jc ?_|refine jd ?_|refine je ?_|refine jf ?_|refine jg ?_|refine jh ?_|refine ji ?_|refine jj ?_|refine jk ?_|refine jl ?_|refine jm ?_|refine jn ?_|refine jo ?_|refine jp ?_|refine jq ?_|refine jr ?_|refine js ?_|refine jt ?_|refine ju ?_|refine jv ?_|refine jw ?_|refine jx ?_|refine jy ?_|refine jz ?_|refine jA ?_|refine jB ?_|refine jC ?_|refine jD ?_|refine jE ?_|refine jF ?_|refine jG ?_|refine jH ?_|refine jI ?_|refine jJ ?_|refine jK ?_|refine jL ?_|refine jM (by assumption) ?_|refine jN (by assumption) rfl ?_|refine jO (by assumption) ?_|refine jP (by assumption) rfl ?_|refine jQ ?_|refine jR ?_|refine jS ?_|refine jT ?_|refine jU (by assumption) rfl ?_))
      refine M.idxPD_i hr hx (fun b1 o1 hc => ?_)
      refine M.gd_ff ?_
      refine M.field_i ?_
      refine M.gd_ff ?_
      refine M.load_i (hc 2 _ rfl) ?_
      by_cases h2 : e < x.e
      · (repeat (first|refine ja ?_|refine jb ?_|refine jc ?_|refine jd ?_|refine je ?_|refine jf ?_|refine jg ?_|refine jh ?_|refine ji ?_|refine jj ?_|refine jk ?_|refine jl ?_|refine jm ?_|refine jn ?_|refine jo ?_|refine jp ?_|refine jq ?_|refine jr ?_|refine js ?_|refine jt ?_|refine ju ?_|refine jv ?_|refine jw ?_|refine jx ?_|refine jy ?_|refine jz ?_|refine jA ?_|refine jB ?_|refine jC ?_|refine jD ?_|refine jE ?_|refine jF ?_|refine jG ?_|refine jH ?_|refine jI ?_|refine jJ ?_|refine jK ?_|refine jL ?_|refine jM (by assumption) ?_|refine jN (by assumption) rfl ?_|refine jO (by assumption) ?_|refine jP (by assumption) rfl ?_|refine jQ ?_|refine jR ?_|refine jS ?_|refine jT ?_|refine jU (by assumption) rfl ?_|refine jG ?_ (by decide)|refine jH ?_ (by decide)|refine jI ?_ (by decide)|refine jJ ?_ (by decide)|refine jC ?_ (by decide)|refine jy ?_ (by decide)))
        refine M.call_i (rbit_i m i (by omega) w1) ?_; rintro _ w2 ⟨rfl, rfl⟩
        cases hb : bitZ m i with
        | true =>
          (repeat (first|refine ja ?_|refine jb ?_|refine jc ?_|refine jd ?_|refine je ?_|refine jf ?_|refine jg ?_|refine jh ?_|refine ji ?_|refine jj ?_|refine jk ?_|refine jl ?_|refine jm ?_|refine jn ?_|refine jo ?_|refine jp ?_|refine jq ?_|refine jr ?_|refine js ?_|refine jt ?_|refine ju ?_|refine jv ?_|refine jw ?_|refine jx ?_|refine jy ?_|refine jz ?_|refine jA ?_|refine jB ?_|refine jC ?_|refine jD ?_|refine jE ?_|refine jF ?_|refine jG ?_|refine jH ?_|refine jI ?_|refine jJ ?_|refine jK ?_|refine jL ?_|refine jM (by assumption) ?_|refine jN (by assumption) rfl ?_|refine jO (by assumption) ?_|refine jP (by assumption) rfl ?_|refine jQ ?_|refine jR ?_|refine jS ?_|refine jT ?_|refine jU (by assumption) rfl ?_|refine jG ?_ (by decide)|refine jH ?_ (by decide)|refine jI ?_ (by decide)|refine jJ ?_ (by decide)|refine jC ?_ (by decide)|refine jy ?_ (by decide)))
          exact ⟨bad (.inr ⟨h2, hb⟩), rfl⟩
        | false =>
          (repeat (first|refine ja ?_|refine jb ?_|refine jc ?_|refine jd ?_|refine je ?_|refine jf ?_|refine jg ?_|refine jh ?_|refine ji ?_|refine jj ?_|refine jk ?_|refine jl ?_|refine jm ?_|refine jn ?_|refine jo ?_|refine jp ?_|refine jq ?_|refine jr ?_|refine js ?_|refine jt ?_|refine ju ?_|refine jv ?_|refine jw ?_|refine jx ?_|refine jy ?_|refine jz ?_|refine jA ?_|refine jB ?_|refine jC ?_|refine jD ?_|refine jE ?_|refine jF ?_|refine jG ?_|refine jH ?_|refine jI ?_|refine jJ ?_|refine jK ?_|refine jL ?_|refine jM (by assumption) ?_|refine jN (by assumption) rfl ?_|refine jO (by assumption) ?_|refine jP (by assumption) rfl ?_|refine jQ ?_|refine jR ?_|refine jS ?_|refine jT ?_|refine jU (by assumption) rfl ?_|refine jG ?_ (by decide)|refine jH ?_ (by decide)|refine jI ?_ (by decide)|refine jJ ?_ (by decide)|refine jC ?_ (by decide)|refine jy ?_ (by decide)))
          exact hK (i + 1) _ _ (by omega) ⟨rfl, by omega, yes (by rw [hb]; simp; omega), rfl⟩
      · (repeat (first|refine ja ?_|refine jb ?_|refine jc ?_|refine jd ?_|refine je ?_|refine jf ?_|refine jg ?_|refine jh ?_|refine ji ?_|refine jj ?_|refine jk ?_|refine jl ?_|refine jm ?_|refine jn ?_|refine jo ?_|refine jp ?_|refine jq ?_|refine jr ?_|refine js ?_|refine jt ?_|refine ju ?_|refine jv ?_|refine jw ?_|refine jx ?_|refine jy ?_|refine jz ?_|refine jA ?_|refine jB ?_|refine jC ?_|refine jD ?_|refine jE ?_|refine jF ?_|refine jG ?_|refine jH ?_|refine jI ?_|refine jJ ?_|refine jK ?_|refine jL ?_|refine jM (by assumption) ?_|refine jN (by assumption) rfl ?_|refine jO (by assumption) ?_|refine jP (by assumption) rfl ?_|refine jQ ?_|refine jR ?_|refine jS ?_|refine jT ?_|refine jU (by assumption) rfl ?_|refine jG ?_ (by decide)|refine jH ?_ (by decide)|refine jI ?_ (by decide)|refine jJ ?_ (by decide)|refine jC ?_ (by decide)|refine jy ?_ (by decide)))
        exact hK (i + 1) _ _ (by omega) ⟨rfl, by omega, yes (by omega), rfl⟩
  · have e1 : i = l.length := by omega
    subst e1
    (repeat (first|refine ja ?_|refine jb ?_|refine jc ?_|refine jd ?_|refine je ?_|refine jf ?_|refine jg ?_|refine jh ?_|refine ji ?_|refine jj ?_|refine jk ?_|refine jl ?_|refine jm ?_|refine jn ?_|refine jo ?_|refine jp ?_|refine jq ?_|refine jr ?_|refine js ?_|refine jt ?_|refine ju ?_|refine jv ?_|refine jw ?_|refine jx ?_|refine jy ?_|refine jz ?_|refine jA ?_|refine jB ?_|refine jC ?_|refine jD ?_|refine jE ?_|refine jF ?_|refine jG ?_|refine jH ?_|refine jI ?_|refine jJ ?_|refine jK ?_|refine jL ?_|refine jM (by assumption) ?_|refine jN (by assumption) rfl ?_|refine jO (by assumption) ?_|refine jP (by assumption) rfl ?_|refine jQ ?_|refine jR ?_|refine jS ?_|refine jT ?_|refine jU (by assumption) rfl ?_))
    exact ⟨⟨true, rfl, ⟨fun _ => hfi, fun _ => rfl⟩⟩, rfl⟩
theorem rallowed_ret (h : DvO w D a b d) (hf : d.pend.length ≤ 1000000) (m : Int) :
    Ret Try.prog 20 #[.agg ⟨[a, b, vi d.ep]⟩, vi m] w (fun r w' => r = .bool (allowB (epsP d.pend) m) ∧ Keep w w' No) := by
  obtain ⟨h1, A, c, rfl, hr, hc⟩ := h
  refine ok20 _ _ _ _ ?_
  unfold sh20
  refine M.new_i (l := [a, .slice A d.pend.length c, vi d.ep]) (fun w1 b1 k1 s1 => ?_)
  have el := eps_len d.pend
  (repeat (first|refine ja ?_|refine jb ?_|refine jc ?_|refine jd ?_|refine je ?_|refine jf ?_|refine jg ?_|refine jh ?_|refine ji ?_|refine jj ?_|refine jk ?_|refine jl ?_|refine jm ?_|refine jn ?_|refine jo ?_|refine jp ?_|refine jq ?_|refine jr ?_|refine js ?_|refine jt ?_|refine ju ?_|refine jv ?_|refine jw ?_|refine jx ?_|refine jy ?_|refine jz ?_|refine jA ?_|refine jB ?_|refine jC ?_|refine jD ?_|refine jE ?_|refine jF ?_|refine jG ?_|refine jH ?_|refine jI ?_|refine jJ ?_|refine jK ?_|refine jL ?_|refine jM (by assumption) ?_|refine jN (by assumption) rfl ?_|refine jO (by assumption) ?_|refine jP (by assumption) rfl ?_|refine jQ ?_|refine jR ?_|refine jS ?_|refine jT ?_|refine jU (by assumption) rfl ?_))
  by_cases h20 : 20 < d.pend.length
  · rw [allowB_no (by omega)]
    (repeat (first|refine ja ?_|refine jb ?_|refine jc ?_|refine jd ?_|refine je ?_|refine jf ?_|refine jg ?_|refine jh ?_|refine ji ?_|refine jj ?_|refine jk ?_|refine jl ?_|refine jm ?_|refine jn ?_|refine jo ?_|refine jp ?_|refine jq ?_|refine jr ?_|refine js ?_|refine jt ?_|refine ju ?_|refine jv ?_|refine jw ?_|refine jx ?_|refine jy ?_|refine jz ?_|refine jA ?_|refine jB ?_|refine jC ?_|refine jD ?_|refine jE ?_|refine jF ?_|refine jG ?_|refine jH ?_|refine jI ?_|refine jJ ?_|refine jK ?_|refine jL ?_|refine jM (by assumption) ?_|refine jN (by assumption) rfl ?_|refine jO (by assumption) ?_|refine jP (by assumption) rfl ?_|refine jQ ?_|refine jR ?_|refine jS ?_|refine jT ?_|refine jU (by assumption) rfl ?_))
    exact ⟨rfl, k1⟩
  by_cases h0 : m < 0
  · rw [allowB_no (by omega)]
    (repeat (first|refine ja ?_|refine jb ?_|refine jc ?_|refine jd ?_|refine je ?_|refine jf ?_|refine jg ?_|refine jh ?_|refine ji ?_|refine jj ?_|refine jk ?_|refine jl ?_|refine jm ?_|refine jn ?_|refine jo ?_|refine jp ?_|refine jq ?_|refine jr ?_|refine js ?_|refine jt ?_|refine ju ?_|refine jv ?_|refine jw ?_|refine jx ?_|refine jy ?_|refine jz ?_|refine jA ?_|refine jB ?_|refine jC ?_|refine jD ?_|refine jE ?_|refine jF ?_|refine jG ?_|refine jH ?_|refine jI ?_|refine jJ ?_|refine jK ?_|refine jL ?_|refine jM (by assumption) ?_|refine jN (by assumption) rfl ?_|refine jO (by assumption) ?_|refine jP (by assumption) rfl ?_|refine jQ ?_|refine jR ?_|refine jS ?_|refine jT ?_|refine jU (by assumption) rfl ?_))
    exact ⟨rfl, k1⟩
  (repeat (first|refine ja ?_|refine jb ?_|refine jc ?_|refine jd ?_|refine je ?_|refine jf ?_|refine jg ?_|refine jh ?_|refine ji ?_|refine jj ?_|refine jk ?_|refine jl ?_|refine jm ?_|refine jn ?_|refine jo ?_|refine jp ?_|refine jq ?_|refine jr ?_|refine js ?_|refine jt ?_|refine ju ?_|refine jv ?_|refine jw ?_|refine jx ?_|refine jy ?_|refine jz ?_|refine jA ?_|refine jB ?_|refine jC ?_|refine jD ?_|refine jE ?_|refine jF ?_|refine jG ?_|refine jH ?_|refine jI ?_|refine jJ ?_|refine jK ?_|refine jL ?_|refine jM (by assumption) ?_|refine jN (by assumption) rfl ?_|refine jO (by assumption) ?_|refine jP (by assumption) rfl ?_|refine jQ ?_|refine jR ?_|refine jS ?_|refine jT ?_|refine jU (by assumption) rfl ?_))
  refine M.word_nat (by omega) ?_
  refine M.gd_ff ?_
  refine M.shl1_i (by omega) ?_
  by_cases hm : ((2 ^ d.pend.length : Nat) : Int) ≤ m
  · rw [allowB_no (by rw [el]; omega)]
    (repeat (first|refine ja ?_|refine jb ?_|refine jc ?_|refine jd ?_|refine je ?_|refine jf ?_|refine jg ?_|refine jh ?_|refine ji ?_|refine jj ?_|refine jk ?_|refine jl ?_|refine jm ?_|refine jn ?_|refine jo ?_|refine jp ?_|refine jq ?_|refine jr ?_|refine js ?_|refine jt ?_|refine ju ?_|refine jv ?_|refine jw ?_|refine jx ?_|refine jy ?_|refine jz ?_|refine jA ?_|refine jB ?_|refine jC ?_|refine jD ?_|refine jE ?_|refine jF ?_|refine jG ?_|refine jH ?_|refine jI ?_|refine jJ ?_|refine jK ?_|refine jL ?_|refine jM (by assumption) ?_|refine jN (by assumption) rfl ?_|refine jO (by assumption) ?_|refine jP (by assumption) rfl ?_|refine jQ ?_|refine jR ?_|refine jS ?_|refine jT ?_|refine jU (by assumption) rfl ?_))
    exact ⟨rfl, k1⟩
  (repeat (first|refine ja ?_|refine jb ?_|refine jc ?_|refine jd ?_|refine je ?_|refine jf ?_|refine jg ?_|refine jh ?_|refine ji ?_|refine jj ?_|refine jk ?_|refine jl ?_|refine jm ?_|refine jn ?_|refine jo ?_|refine jp ?_|refine jq ?_|refine jr ?_|refine js ?_|refine jt ?_|refine ju ?_|refine jv ?_|refine jw ?_|refine jx ?_|refine jy ?_|refine jz ?_|refine jA ?_|refine jB ?_|refine jC ?_|refine jD ?_|refine jE ?_|refine jF ?_|refine jG ?_|refine jH ?_|refine jI ?_|refine jJ ?_|refine jK ?_|refine jL ?_|refine jM (by assumption) ?_|refine jN (by assumption) rfl ?_|refine jO (by assumption) ?_|refine jP (by assumption) rfl ?_|refine jQ ?_|refine jR ?_|refine jS ?_|refine jT ?_|refine jU (by assumption) rfl ?_))
  by_cases hz : d.pend.length = 0
  · have : allowB (epsP d.pend) m = true := allowB_iff.2 ⟨by omega, by omega, by rw [el]; omega, fun j k hj => by omega⟩
    rw [this]
    (repeat (first|refine ja ?_|refine jb ?_|refine jc ?_|refine jd ?_|refine je ?_|refine jf ?_|refine jg ?_|refine jh ?_|refine ji ?_|refine jj ?_|refine jk ?_|refine jl ?_|refine jm ?_|refine jn ?_|refine jo ?_|refine jp ?_|refine jq ?_|refine jr ?_|refine js ?_|refine jt ?_|refine ju ?_|refine jv ?_|refine jw ?_|refine jx ?_|refine jy ?_|refine jz ?_|refine jA ?_|refine jB ?_|refine jC ?_|refine jD ?_|refine jE ?_|refine jF ?_|refine jG ?_|refine jH ?_|refine jI ?_|refine jJ ?_|refine jK ?_|refine jL ?_|refine jM (by assumption) ?_|refine jN (by assumption) rfl ?_|refine jO (by assumption) ?_|refine jP (by assumption) rfl ?_|refine jQ ?_|refine jR ?_|refine jS ?_|refine jT ?_|refine jU (by assumption) rfl ?_))
    exact ⟨rfl, k1⟩
  (repeat (first|refine ja ?_|refine jb ?_|refine jc ?_|refine jd ?_|refine je ?_|refine jf ?_|refine jg ?_|refine jh ?_|refine ji ?_|refine jj ?_|refine jk ?_|refine jl ?_|refine jm ?_|refine jn ?_|refine jo ?_|refine jp ?_|refine jq ?_|refine jr ?_|refine js ?_|refine jt ?_|refine ju ?_|refine jv ?_|refine jw ?_|refine jx ?_|refine jy ?_|refine jz ?_|refine jA ?_|refine jB ?_|refine jC ?_|refine jD ?_|refine jE ?_|refine jF ?_|refine jG ?_|refine jH ?_|refine jI ?_|refine jJ ?_|refine jK ?_|refine jL ?_|refine jM (by assumption) ?_|refine jN (by assumption) rfl ?_|refine jO (by assumption) ?_|refine jP (by assumption) rfl ?_|refine jQ ?_|refine jR ?_|refine jS ?_|refine jT ?_|refine jU (by assumption) rfl ?_))
  refine M.loop_i (σ := Nat) (fun i vals w' => vals = [vi i] ∧ i ≤ d.pend.length ∧ (∀ j, j < i → ¬ fitP (epsP d.pend) m ((epsP d.pend).getD j 0) d.pend.length) ∧ Keep w1 w' No) (fun i => d.pend.length - i) 0 ⟨rfl, by omega, fun j hj => by omega, Keep.refl _ _⟩ ?_
  rintro i vals w2 K ⟨rfl, hi, hno, k2⟩ hK _
  simp only [List.getD_cons_zero, List.getD_cons_succ]
  have hfi := fit_iff (es := epsP d.pend) (m := m) (by omega)
  rw [el] at hfi
  by_cases hlt : i < d.pend.length
  · obtain ⟨x, hx, hxe⟩ := eps_at hlt
    have kd := k2.trans (Keep.drew w2 No) (fun _ _ h => h)
    have bd := b1.keep kd (fun h => h)
    have hrd := (hr.keep k1 (fun _ _ _ h => h)).keep kd (fun _ _ _ h => h)
    (repeat (first|refine ja ?_|refine jb ?_|refine jc ?_|refine jd ?_|refine je ?_|refine jf ?_|refine jg ?_|refine jh ?_|refine ji ?_|refine jj ?_|refine jk ?_|refine jl ?_|refine jm ?_|refine jn ?_|refine jo ?_|refine jp ?_|refine jq ?_|refine jr ?_|refine js ?_|refine jt ?_|refine ju ?_|refine jv ?_|refine jw ?_|refine jx ?_|refine jy ?_|refine jz ?_|refine jA ?_|refine jB ?_|refine jC ?_|refine jD ?_|refine jE ?_|refine jF ?_|refine jG ?_|refine jH ?_|refine jI ?_|refine jJ ?_|refine jK ?_|refine jL ?_|refine jM (by assumption) ?_|refine jN (by assumption) rfl ?_|refine jO (by assumption) ?_|refine jP (by assumption) rfl ?_|refine jQ ?_|refine jR ?_|refine jS ?_|refine jT ?_|refine jU (by assumption) rfl ?_))
    refine M.idxPD_i hrd hx (fun b2 o2 hc2 => ?_)
    refine M.field_i ?_
    refine M.load_i (hc2 2 _ rfl) ?_
    refine M.call_i (rfits_ret' (D := D) ⟨_, c, rfl, hrd, hc⟩ hf m x.e) ?_; rintro _ w3 ⟨⟨t, rfl, ht⟩, rfl⟩
    refine M.stB_i bd rfl ?_
    cases t with
    | true =>
      have : allowB (epsP d.pend) m = true := allowB_iff.2 ⟨by omega, by omega, by rw [el]; omega, by rw [el]; exact hfi.1 ⟨i, hlt, by rw [hxe]; exact ht.1 rfl⟩⟩
      rw [this]
      (repeat (first|refine ja ?_|refine jb ?_|refine jc ?_|refine jd ?_|refine je ?_|refine jf ?_|refine jg ?_|refine jh ?_|refine ji ?_|refine jj ?_|refine jk ?_|refine jl ?_|refine jm ?_|refine jn ?_|refine jo ?_|refine jp ?_|refine jq ?_|refine jr ?_|refine js ?_|refine jt ?_|refine ju ?_|refine jv ?_|refine jw ?_|refine jx ?_|refine jy ?_|refine jz ?_|refine jA ?_|refine jB ?_|refine jC ?_|refine jD ?_|refine jE ?_|refine jF ?_|refine jG ?_|refine jH ?_|refine jI ?_|refine jJ ?_|refine jK ?_|refine jL ?_|refine jM (by assumption) ?_|refine jN (by assumption) rfl ?_|refine jO (by assumption) ?_|refine jP (by assumption) rfl ?_|refine jQ ?_|refine jR ?_|refine jS ?_|refine jT ?_|refine jU (by assumption) rfl ?_))
      exact ⟨rfl, k1.trans kd (fun _ _ h => h)⟩
    | false =>
      (repeat (first|refine ja ?_|refine jb ?_|refine jc ?_|refine jd ?_|refine je ?_|refine jf ?_|refine jg ?_|refine jh ?_|refine ji ?_|refine jj ?_|refine jk ?_|refine jl ?_|refine jm ?_|refine jn ?_|refine jo ?_|refine jp ?_|refine jq ?_|refine jr ?_|refine js ?_|refine jt ?_|refine ju ?_|refine jv ?_|refine jw ?_|refine jx ?_|refine jy ?_|refine jz ?_|refine jA ?_|refine jB ?_|refine jC ?_|refine jD ?_|refine jE ?_|refine jF ?_|refine jG ?_|refine jH ?_|refine jI ?_|refine jJ ?_|refine jK ?_|refine jL ?_|refine jM (by assumption) ?_|refine jN (by assumption) rfl ?_|refine jO (by assumption) ?_|refine jP (by assumption) rfl ?_|refine jQ ?_|refine jR ?_|refine jS ?_|refine jT ?_|refine jU (by assumption) rfl ?_))
      refine hK (i + 1) _ _ (by omega) ⟨rfl, by omega, fun j hj hh => ?_, kd⟩
      by_cases e1 : j = i
      · rw [e1, hxe] at hh
        exact absurd (ht.2 hh) (by simp)
      · exact hno j (by omega) hh
  · have : allowB (epsP d.pend) m = false := allowB_no (fun hh => by
      rw [el] at hh
      obtain ⟨j, hj, hj2⟩ := hfi.2 hh.2.2.2
      exact hno j (by omega) hj2)
    rw [this]
    (repeat (first|refine ja ?_|refine jb ?_|refine jc ?_|refine jd ?_|refine je ?_|refine jf ?_|refine jg ?_|refine jh ?_|refine ji ?_|refine jj ?_|refine jk ?_|refine jl ?_|refine jm ?_|refine jn ?_|refine jo ?_|refine jp ?_|refine jq ?_|refine jr ?_|refine js ?_|refine jt ?_|refine ju ?_|refine jv ?_|refine jw ?_|refine jx ?_|refine jy ?_|refine jz ?_|refine jA ?_|refine jB ?_|refine jC ?_|refine jD ?_|refine jE ?_|refine jF ?_|refine jG ?_|refine jH ?_|refine jI ?_|refine jJ ?_|refine jK ?_|refine jL ?_|refine jM (by assumption) ?_|refine jN (by assumption) rfl ?_|refine jO (by assumption) ?_|refine jP (by assumption) rfl ?_|refine jQ ?_|refine jR ?_|refine jS ?_|refine jT ?_|refine jU (by assumption) rfl ?_))
    exact ⟨rfl, k1.trans k2 (fun _ _ h => h)⟩
theorem rmasks_ret (h : DvO w D a b d) (hf : d.pend.length ≤ 1000000) :
    Ret Try.prog 11 #[.agg ⟨[a, b, vi d.ep]⟩] w (fun r w' => GI w' (w.heap.size ≤ ·) r (masksL (epsP d.pend)) ∧ Keep w w' No) := by
  obtain ⟨h1, A, c, rfl, hr, hc⟩ := id h
  refine ok11 _ _ _ ?_
  unfold sh11
  refine M.new_i (l := [a, .slice A d.pend.length c, vi d.ep]) (fun w1 b1 k1 s1 => ?_)
  have el := eps_len d.pend
  have hdv := h.keep k1 (fun _ _ _ h => h)
  unfold masksL
  rw [el]
  by_cases h12 : 12 < d.pend.length
  · rw [if_pos h12]
    (repeat (first|refine ja ?_|refine jb ?_|refine jc ?_|refine jd ?_|refine je ?_|refine jf ?_|refine jg ?_|refine jh ?_|refine ji ?_|refine jj ?_|refine jk ?_|refine jl ?_|refine jm ?_|refine jn ?_|refine jo ?_|refine jp ?_|refine jq ?_|refine jr ?_|refine js ?_|refine jt ?_|refine ju ?_|refine jv ?_|refine jw ?_|refine jx ?_|refine jy ?_|refine jz ?_|refine jA ?_|refine jB ?_|refine jC ?_|refine jD ?_|refine jE ?_|refine jF ?_|refine jG ?_|refine jH ?_|refine jI ?_|refine jJ ?_|refine jK ?_|refine jL ?_|refine jM (by assumption) ?_|refine jN (by assumption) rfl ?_|refine jO (by assumption) ?_|refine jP (by assumption) rfl ?_|refine jQ ?_|refine jR ?_|refine jS ?_|refine jT ?_|refine jU (by assumption) rfl ?_))
    exact ⟨GI.nil _ _, k1⟩
  rw [if_neg h12]
  have hp := pow_le20 (n := d.pend.length) (by omega)
  generalize hN : 2 ^ d.pend.length = N at hp ⊢
  (repeat (first|refine ja ?_|refine jb ?_|refine jc ?_|refine jd ?_|refine je ?_|refine jf ?_|refine jg ?_|refine jh ?_|refine ji ?_|refine jj ?_|refine jk ?_|refine jl ?_|refine jm ?_|refine jn ?_|refine jo ?_|refine jp ?_|refine jq ?_|refine jr ?_|refine js ?_|refine jt ?_|refine ju ?_|refine jv ?_|refine jw ?_|refine jx ?_|refine jy ?_|refine jz ?_|refine jA ?_|refine jB ?_|refine jC ?_|refine jD ?_|refine jE ?_|refine jF ?_|refine jG ?_|refine jH ?_|refine jI ?_|refine jJ ?_|refine jK ?_|refine jL ?_|refine jM (by assumption) ?_|refine jN (by assumption) rfl ?_|refine jO (by assumption) ?_|refine jP (by assumption) rfl ?_|refine jQ ?_|refine jR ?_|refine jS ?_|refine jT ?_|refine jU (by assumption) rfl ?_))
  refine M.loop_i (σ := Nat) (fun i vals w' => ∃ sv, vals = [sv, vi i] ∧ i ≤ N ∧ GI w' (w1.heap.size ≤ ·) sv (masksN (epsP d.pend) i) ∧ Blk w' w.heap.size [a, .slice A d.pend.length c, vi d.ep] ∧ Keep w1 w' No) (fun i => N - i) 0
    ⟨_, rfl, by omega, by simpa [masksN, natsI] using GI.nil _ _, b1, Keep.refl _ _⟩ ?_
  rintro i vals w2 K ⟨sv, rfl, hi, g2, b2, k2⟩ hK _
  simp only [List.getD_cons_zero, List.getD_cons_succ]
  have hml := masksN_len (epsP d.pend) i
  have q1 := k1.size; have q2 := k2.size
  (repeat (first|refine ja ?_|refine jb ?_|refine jc ?_|refine jd ?_|refine je ?_|refine jf ?_|refine jg ?_|refine jh ?_|refine ji ?_|refine jj ?_|refine jk ?_|refine jl ?_|refine jm ?_|refine jn ?_|refine jo ?_|refine jp ?_|refine jq ?_|refine jr ?_|refine js ?_|refine jt ?_|refine ju ?_|refine jv ?_|refine jw ?_|refine jx ?_|refine jy ?_|refine jz ?_|refine jA ?_|refine jB ?_|refine jC ?_|refine jD ?_|refine jE ?_|refine jF ?_|refine jG ?_|refine jH ?_|refine jI ?_|refine jJ ?_|refine jK ?_|refine jL ?_|refine jM (by assumption) ?_|refine jN (by assumption) rfl ?_|refine jO (by assumption) ?_|refine jP (by assumption) rfl ?_|refine jQ ?_|refine jR ?_|refine jS ?_|refine jT ?_|refine jU (by assumption) rfl ?_))
  refine M.word_nat (by omega) ?_
  refine M.shl1_i (by omega) ?_
  rw [hN]
  by_cases hlt : i < N
  · (repeat (first|refine ja ?_|refine jb ?_|refine jc ?_|refine jd ?_|refine je ?_|refine jf ?_|refine jg ?_|refine jh ?_|refine ji ?_|refine jj ?_|refine jk ?_|refine jl ?_|refine jm ?_|refine jn ?_|refine jo ?_|refine jp ?_|refine jq ?_|refine jr ?_|refine js ?_|refine jt ?_|refine ju ?_|refine jv ?_|refine jw ?_|refine jx ?_|refine jy ?_|refine jz ?_|refine jA ?_|refine jB ?_|refine jC ?_|refine jD ?_|refine jE ?_|refine jF ?_|refine jG ?_|refine jH ?_|refine jI ?_|refine jJ ?_|refine jK ?_|refine jL ?_|refine jM (by assumption) ?_|refine jN (by assumption) rfl ?_|refine jO (by assumption) ?_|refine jP (by assumption) rfl ?_|refine jQ ?_|refine jR ?_|refine jS ?_|refine jT ?_|refine jU (by assumption) rfl ?_))
    refine M.share_j (fun vals w' => ∃ sv, vals = [sv] ∧ GI w' (w1.heap.size ≤ ·) sv (masksN (epsP d.pend) (i + 1)) ∧ Blk w' w.heap.size [a, .slice A d.pend.length c, vi d.ep] ∧ Keep w1 w' No) ?_ ?_
    · rintro vals w3 ⟨sv, rfl, a1, a2, a3⟩ _
      simp only [List.getD_cons_zero, List.getD_cons_succ]
      (repeat (first|refine ja ?_|refine jb ?_|refine jc ?_|refine jd ?_|refine je ?_|refine jf ?_|refine jg ?_|refine jh ?_|refine ji ?_|refine jj ?_|refine jk ?_|refine jl ?_|refine jm ?_|refine jn ?_|refine jo ?_|refine jp ?_|refine jq ?_|refine jr ?_|refine js ?_|refine jt ?_|refine ju ?_|refine jv ?_|refine jw ?_|refine jx ?_|refine jy ?_|refine jz ?_|refine jA ?_|refine jB ?_|refine jC ?_|refine jD ?_|refine jE ?_|refine jF ?_|refine jG ?_|refine jH ?_|refine jI ?_|refine jJ ?_|refine jK ?_|refine jL ?_|refine jM (by assumption) ?_|refine jN (by assumption) rfl ?_|refine jO (by assumption) ?_|refine jP (by assumption) rfl ?_|refine jQ ?_|refine jR ?_|refine jS ?_|refine jT ?_|refine jU (by assumption) rfl ?_))
      exact hK (i + 1) _ _ (by omega) ⟨sv, rfl, by omega, a1, a2, a3⟩
    · intro K2 hK2
      refine M.loadAll_i b2 rfl ?_
      refine M.call_i (rallowed_ret (hdv.keep k2 (fun _ _ _ h => h)) hf i) ?_; rintro _ w3 ⟨rfl, k3⟩
      have g3 := g2.keep k3 (fun _ _ _ h => h)
      have b3 := b2.keep k3 (fun h => h)
      rw [masksN_succ] at hK2
      cases hb : allowB (epsP d.pend) (i : Int) with
      | true =>
        rw [hb] at hK2
        (repeat (first|refine ja ?_|refine jb ?_|refine jc ?_|refine jd ?_|refine je ?_|refine jf ?_|refine jg ?_|refine jh ?_|refine ji ?_|refine jj ?_|refine jk ?_|refine jl ?_|refine jm ?_|refine jn ?_|refine jo ?_|refine jp ?_|refine jq ?_|refine jr ?_|refine js ?_|refine jt ?_|refine ju ?_|refine jv ?_|refine jw ?_|refine jx ?_|refine jy ?_|refine jz ?_|refine jA ?_|refine jB ?_|refine jC ?_|refine jD ?_|refine jE ?_|refine jF ?_|refine jG ?_|refine jH ?_|refine jI ?_|refine jJ ?_|refine jK ?_|refine jL ?_|refine jM (by assumption) ?_|refine jN (by assumption) rfl ?_|refine jO (by assumption) ?_|refine jP (by assumption) rfl ?_|refine jQ ?_|refine jR ?_|refine jS ?_|refine jT ?_|refine jU (by assumption) rfl ?_))
        refine M.buildSlice_i [vi i] (by kernel_rfl) (fun w4 b4 k4 s4 => ?_)
        refine M.append1_i (g3.keep k4 (fun _ _ _ h => h)) (Row.of_blk' (D := fun _ => True) b4 trivial) rfl (by omega) (fun v5 w5 g5 k5 => ?_)
        have q4 := k4.size; have q3 := k3.size
        refine hK2 _ _ ⟨v5, rfl, ?_, (b3.keep k4 (fun h => h)).keep k5 (fun h => by have h : w1.heap.size ≤ w.heap.size := h; omega), ((k2.trans k3 (fun _ _ h => h)).trans k4 (fun _ _ h => h)).trans k5 (fun b hb h => by have h : w1.heap.size ≤ b := h; omega)⟩
        exact g5.mono (fun b hb h => by
          rcases h with h | h
          · exact h
          · show w1.heap.size ≤ b; omega)
      | false =>
        rw [hb] at hK2
        (repeat (first|refine ja ?_|refine jb ?_|refine jc ?_|refine jd ?_|refine je ?_|refine jf ?_|refine jg ?_|refine jh ?_|refine ji ?_|refine jj ?_|refine jk ?_|refine jl ?_|refine jm ?_|refine jn ?_|refine jo ?_|refine jp ?_|refine jq ?_|refine jr ?_|refine js ?_|refine jt ?_|refine ju ?_|refine jv ?_|refine jw ?_|refine jx ?_|refine jy ?_|refine jz ?_|refine jA ?_|refine jB ?_|refine jC ?_|refine jD ?_|refine jE ?_|refine jF ?_|refine jG ?_|refine jH ?_|refine jI ?_|refine jJ ?_|refine jK ?_|refine jL ?_|refine jM (by assumption) ?_|refine jN (by assumption) rfl ?_|refine jO (by assumption) ?_|refine jP (by assumption) rfl ?_|refine jQ ?_|refine jR ?_|refine jS ?_|refine jT ?_|refine jU (by assumption) rfl ?_))
        refine hK2 _ _ ⟨sv, rfl, by simpa using g3, b3, k2.trans k3 (fun _ _ h => h)⟩
  · have e1 : i = N := by omega
    subst e1
    (repeat (first|refine ja ?_|refine jb ?_|refine jc ?_|refine jd ?_|refine je ?_|refine jf ?_|refine jg ?_|refine jh ?_|refine ji ?_|refine jj ?_|refine jk ?_|refine jl ?_|refine jm ?_|refine jn ?_|refine jo ?_|refine jp ?_|refine jq ?_|refine jr ?_|refine js ?_|refine jt ?_|refine ju ?_|refine jv ?_|refine jw ?_|refine jx ?_|refine jy ?_|refine jz ?_|refine jA ?_|refine jB ?_|refine jC ?_|refine jD ?_|refine jE ?_|refine jF ?_|refine jG ?_|refine jH ?_|refine jI ?_|refine jJ ?_|refine jK ?_|refine jL ?_|refine jM (by assumption) ?_|refine jN (by assumption) rfl ?_|refine jO (by assumption) ?_|refine jP (by assumption) rfl ?_|refine jQ ?_|refine jR ?_|refine jS ?_|refine jT ?_|refine jU (by assumption) rfl ?_))
    exact ⟨g2.mono (fun b hb h => by have h : w1.heap.size ≤ b := h; show w.heap.size ≤ b; omega), k1.trans k2 (fun _ _ h => h)⟩
end
end Go.Proofs.Ytfffepeloiefiaa
