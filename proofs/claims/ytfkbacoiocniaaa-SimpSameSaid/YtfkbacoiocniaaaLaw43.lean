import Derived.Test.YtfkbacoiocniaaaSimp43f
namespace Go.Proofs.Ytfkbacoiocniaaa
open Go.Mw Go.Shelf
set_option linter.unusedVariables false
set_option linter.unusedSimpArgs false
set_option maxRecDepth 100000
attribute [local irreducible] M.val M.unit M.next M.pick M.new M.nilCheck M.load1 M.loadA M.store M.fieldAddr M.indexSl M.indexArr M.slice M.makeSlice M.buildSlice M.len M.lenS M.cap M.append M.extract M.conv M.not M.neg M.bin M.shift M.eqB M.eqNil M.call M.callv M.gd M.share M.cond M.loop M.draw pureW readW Ret
/-! breakwater/breakwaterlaw43.awake: function 28 -/
def sh28 (R : Kt) (w : World) : Prop :=
  M.buildSlice 3 1 #[.int .i64 0] 1 [(0, (Value.int IntKind.i64 0))] (fun t9 w =>
  M.buildSlice 3 1 #[.int .i64 0] 3 [(0, (Value.int IntKind.i64 1)), (1, (Value.int IntKind.i64 2)), (2, (Value.int IntKind.i64 4))] (fun t10 w =>
  M.buildSlice 3 1 #[.int .i64 0] 2 [(0, (Value.int IntKind.i64 0)), (1, (Value.int IntKind.i64 6))] (fun t11 w =>
  M.buildSlice 22 1 #[.slice none 0 0] 3 [(0, t9), (1, t10), (2, t11)] (fun t12 w =>
  M.call Try.prog 29 #[t12] (fun t13 w =>
  M.extract 0 t13 (fun t14 w =>
  M.extract 1 t13 (fun t15 w =>
  M.extract 2 t13 (fun t16 w =>
  M.buildSlice 3 1 #[.int .i64 0] 1 [(0, (Value.int IntKind.i64 0))] (fun t18 w =>
  M.buildSlice 3 1 #[.int .i64 0] 1 [(0, (Value.int IntKind.i64 1))] (fun t19 w =>
  M.buildSlice 22 1 #[.slice none 0 0] 2 [(0, t18), (1, t19)] (fun t20 w =>
  M.call Try.prog 29 #[t20] (fun t21 w =>
  M.extract 0 t21 (fun t22 w =>
  M.extract 1 t21 (fun t23 w =>
  M.extract 2 t21 (fun t24 w =>
  M.buildSlice 3 1 #[.int .i64 0] 2 [(0, (Value.int IntKind.i64 2)), (1, (Value.int IntKind.i64 0))] (fun t25 w =>
  M.buildSlice 3 1 #[.int .i64 0] 3 [(0, (Value.int IntKind.i64 0)), (1, (Value.int IntKind.i64 2)), (2, (Value.int IntKind.i64 4))] (fun t26 w =>
  M.buildSlice 3 1 #[.int .i64 0] 2 [(0, (Value.int IntKind.i64 6)), (1, (Value.int IntKind.i64 7))] (fun t27 w =>
  M.buildSlice 3 1 #[.int .i64 0] 2 [(0, (Value.int IntKind.i64 0)), (1, (Value.int IntKind.i64 2))] (fun t28 w =>
  M.buildSlice 22 1 #[.slice none 0 0] 4 [(0, t25), (1, t26), (2, t27), (3, t28)] (fun t29 w =>
  M.call Try.prog 32 #[t29] (fun t30 w =>
  M.buildSlice 3 1 #[.int .i64 0] 2 [(0, (Value.int IntKind.i64 2)), (1, (Value.int IntKind.i64 4))] (fun t32 w =>
  M.buildSlice 22 1 #[.slice none 0 0] 1 [(0, t32)] (fun t33 w =>
  M.call Try.prog 31 #[t14, t33] (fun t34 w =>
  M.gd t34 true (fun k w => k t15 w) (fun t36 w =>
  M.gd t34 true (fun k w => M.buildSlice 3 1 #[.int .i64 0] 1 [(0, (Value.int IntKind.i64 0))] k w) (fun t37 w =>
  M.gd t34 true (fun k w => M.call Try.prog 16 #[t36, t37] k w) (fun t38 w =>
  M.pick t34 t38 (Value.bool false) (fun t39 w =>
  M.gd t39 true (fun k w => k t16 w) (fun t41 w =>
  M.pick t39 t41 (Value.bool false) (fun t42 w =>
  M.gd t42 true (fun k w => k t24 w) (fun t44 w =>
  M.gd t42 true (fun k w => M.not t44 k w) (fun t45 w =>
  M.pick t42 t45 (Value.bool false) (fun t46 w =>
  M.gd t46 true (fun k w => k t30 w) (fun t48 w =>
  M.gd t46 true (fun k w => M.buildSlice 3 1 #[.int .i64 0] 2 [(0, (Value.int IntKind.i64 0)), (1, (Value.int IntKind.i64 2))] k w) (fun t49 w =>
  M.gd t46 true (fun k w => M.buildSlice 22 1 #[.slice none 0 0] 1 [(0, t49)] k w) (fun t50 w =>
  M.gd t46 true (fun k w => M.call Try.prog 31 #[t48, t50] k w) (fun t51 w =>
  M.pick t46 t51 (Value.bool false) (fun t52 w =>
  M.gd t52 true (fun k w => M.buildSlice 3 1 #[.int .i64 0] 2 [(0, (Value.int IntKind.i64 0)), (1, (Value.int IntKind.i64 2))] k w) (fun t54 w =>
  M.gd t52 true (fun k w => M.buildSlice 3 1 #[.int .i64 0] 2 [(0, (Value.int IntKind.i64 3)), (1, (Value.int IntKind.i64 4))] k w) (fun t55 w =>
  M.gd t52 true (fun k w => M.buildSlice 22 1 #[.slice none 0 0] 2 [(0, t54), (1, t55)] k w) (fun t56 w =>
  M.gd t52 true (fun k w => M.call Try.prog 34 #[t56] k w) (fun t57 w =>
  M.gd t52 true (fun k w => M.buildSlice 3 1 #[.int .i64 0] 2 [(0, (Value.int IntKind.i64 0)), (1, (Value.int IntKind.i64 4))] k w) (fun t58 w =>
  M.gd t52 true (fun k w => M.call Try.prog 16 #[t57, t58] k w) (fun t59 w =>
  M.pick t52 t59 (Value.bool false) (fun t60 w =>
  M.gd t60 true (fun k w => M.buildSlice 3 1 #[.int .i64 0] 2 [(0, (Value.int IntKind.i64 0)), (1, (Value.int IntKind.i64 2))] k w) (fun t62 w =>
  M.gd t60 true (fun k w => M.buildSlice 3 1 #[.int .i64 0] 2 [(0, (Value.int IntKind.i64 3)), (1, (Value.int IntKind.i64 4))] k w) (fun t63 w =>
  M.gd t60 true (fun k w => M.buildSlice 22 1 #[.slice none 0 0] 2 [(0, t62), (1, t63)] k w) (fun t64 w =>
  M.gd t60 true (fun k w => M.buildSlice 3 1 #[.int .i64 0] 1 [(0, (Value.int IntKind.i64 4))] k w) (fun t65 w =>
  M.gd t60 true (fun k w => M.call Try.prog 36 #[t64, t65] k w) (fun t66 w =>
  M.gd t60 true (fun k w => M.buildSlice 3 1 #[.int .i64 0] 2 [(0, (Value.int IntKind.i64 0)), (1, (Value.int IntKind.i64 2))] k w) (fun t67 w =>
  M.gd t60 true (fun k w => M.buildSlice 22 1 #[.slice none 0 0] 1 [(0, t67)] k w) (fun t68 w =>
  M.gd t60 true (fun k w => M.call Try.prog 31 #[t66, t68] k w) (fun t69 w =>
  M.pick t60 t69 (Value.bool false) (fun t70 w =>
  R t70 w) w) w) w) w) w) w) w) w) w) w) w) w) w) w) w) w) w) w) w) w) w) w) w) w) w) w) w) w) w) w) w) w) w) w) w) w) w) w) w) w) w) w) w) w) w) w) w) w) w) w) w) w) w) w
theorem ok28 (R : Kt) (w : World) (h : sh28 R w) : Ret Try.prog 28 #[] w R :=
  ret_mk <| calls_of_comp mixed (c := Try.f28.body.getD .skip) (args := []) (rs := [(ResultVar.tmp 0)]) (Ann.seq Ann.text (Ann.seq Ann.text (Ann.seq Ann.text (Ann.seq Ann.text (Ann.seq Ann.text Ann.leaf)))))
    Try.func28 (by kernel_rfl) (by kernel_rfl)
    (Eq.mp (by kernel_rfl) h)
/-! breakwater/breakwaterlaw43.SimpLooks: function 8 -/
def sh8 (x0 x1 : Value) (R : Kt) (w : World) : Prop :=
  M.call Try.prog 27 #[x0, (Value.int IntKind.i64 60)] (fun t12 w =>
  M.bin .eql t12 (Value.int IntKind.i64 0) (fun t13 w =>
  M.gd t13 false (fun k w => k x1 w) (fun t15 w =>
  M.gd t13 false (fun k w => M.len t15 k w) (fun t16 w =>
  M.gd t13 false (fun k w => M.bin .gtr t16 (Value.int IntKind.i64 60) k w) (fun t17 w =>
  M.pick t13 (Value.bool true) t17 (fun t18 w =>
  M.cond t18
  (M.call Try.prog 28 #[] (fun t19 w =>
  R t19 w) w)
  (M.call Try.prog 29 #[x0] (fun t22 w =>
  M.extract 0 t22 (fun t23 w =>
  M.extract 1 t22 (fun t24 w =>
  M.extract 2 t22 (fun t25 w =>
  M.call Try.prog 30 #[x0] (fun t28 w =>
  M.extract 0 t28 (fun t29 w =>
  M.extract 1 t28 (fun t30 w =>
  M.extract 2 t28 (fun t31 w =>
  M.call Try.prog 31 #[t23, t29] (fun t34 w =>
  M.gd t34 true (fun k w => k t24 w) (fun t36 w =>
  M.gd t34 true (fun k w => k t30 w) (fun t37 w =>
  M.gd t34 true (fun k w => M.call Try.prog 16 #[t36, t37] k w) (fun t38 w =>
  M.pick t34 t38 (Value.bool false) (fun t39 w =>
  M.gd t39 true (fun k w => k t25 w) (fun t41 w =>
  M.gd t39 true (fun k w => k t31 w) (fun t42 w =>
  M.gd t39 true (fun k w => M.eqB false t41 t42 k w) (fun t43 w =>
  M.pick t39 t43 (Value.bool false) (fun t44 w =>
  M.gd t44 true (fun k w => k x0 w) (fun t46 w =>
  M.gd t44 true (fun k w => M.call Try.prog 32 #[t46] k w) (fun t47 w =>
  M.gd t44 true (fun k w => k x0 w) (fun t48 w =>
  M.gd t44 true (fun k w => M.call Try.prog 33 #[t48] k w) (fun t49 w =>
  M.gd t44 true (fun k w => M.call Try.prog 31 #[t47, t49] k w) (fun t50 w =>
  M.pick t44 t50 (Value.bool false) (fun t51 w =>
  M.gd t51 true (fun k w => k x0 w) (fun t53 w =>
  M.gd t51 true (fun k w => M.call Try.prog 34 #[t53] k w) (fun t54 w =>
  M.gd t51 true (fun k w => k x0 w) (fun t55 w =>
  M.gd t51 true (fun k w => M.call Try.prog 35 #[t55] k w) (fun t56 w =>
  M.gd t51 true (fun k w => M.call Try.prog 16 #[t54, t56] k w) (fun t57 w =>
  M.pick t51 t57 (Value.bool false) (fun t58 w =>
  M.gd t58 true (fun k w => k x0 w) (fun t60 w =>
  M.gd t58 true (fun k w => k x1 w) (fun t61 w =>
  M.gd t58 true (fun k w => M.call Try.prog 36 #[t60, t61] k w) (fun t62 w =>
  M.gd t58 true (fun k w => k x0 w) (fun t63 w =>
  M.gd t58 true (fun k w => k x1 w) (fun t64 w =>
  M.gd t58 true (fun k w => M.call Try.prog 37 #[t63, t64] k w) (fun t65 w =>
  M.gd t58 true (fun k w => M.call Try.prog 31 #[t62, t65] k w) (fun t66 w =>
  M.pick t58 t66 (Value.bool false) (fun t67 w =>
  M.gd t67 true (fun k w => M.call Try.prog 28 #[] k w) (fun t69 w =>
  M.pick t67 t69 (Value.bool false) (fun t70 w =>
  R t70 w) w) w) w) w) w) w) w) w) w) w) w) w) w) w) w) w) w) w) w) w) w) w) w) w) w) w) w) w) w) w) w) w) w) w) w) w) w) w) w)) w) w) w) w) w) w
theorem ok8 (x0 x1 : Value) (R : Kt) (w : World) (h : sh8 x0 x1 R w) : Ret Try.prog 8 #[x0, x1] w R :=
  ret_mk <| calls_of_comp mixed (c := Try.f8.body.getD .skip) (args := [x0, x1]) (rs := [(ResultVar.tmp 4)]) (Ann.seq Ann.text (Ann.seq (Ann.seq Ann.text (Ann.cond (Ann.seq Ann.text Ann.leaf) Ann.leaf)) (Ann.seq Ann.text (Ann.seq Ann.text (Ann.seq Ann.text Ann.leaf)))))
    Try.func8 (by kernel_rfl) (by kernel_rfl)
    (Eq.mp (by kernel_rfl) h)
/-! breakwater/breakwaterlaw43.SimpSame: function 9 -/
def sh9 (x0 x1 : Value) (R : Kt) (w : World) : Prop :=
  M.call Try.prog 27 #[x0, (Value.int IntKind.i64 60)] (fun t12 w =>
  M.bin .eql t12 (Value.int IntKind.i64 0) (fun t13 w =>
  M.gd t13 false (fun k w => k x1 w) (fun t15 w =>
  M.gd t13 false (fun k w => M.len t15 k w) (fun t16 w =>
  M.gd t13 false (fun k w => M.bin .gtr t16 (Value.int IntKind.i64 1000) k w) (fun t17 w =>
  M.pick t13 (Value.bool true) t17 (fun t18 w =>
  M.gd t18 false (fun k w => k x0 w) (fun t20 w =>
  M.gd t18 false (fun k w => M.call Try.prog 38 #[(Value.int IntKind.i64 1048576), t20] k w) (fun t21 w =>
  M.gd t18 false (fun k w => M.bin .neq t21 (Value.int IntKind.i64 0) k w) (fun t22 w =>
  M.pick t18 (Value.bool true) t22 (fun t23 w =>
  M.cond t23
  (M.call Try.prog 28 #[] (fun t24 w =>
  R t24 w) w)
  (M.call Try.prog 39 #[x0, x1] (fun t27 w =>
  M.bin .lss t27 (Value.int IntKind.i64 0) (fun t28 w =>
  M.call Try.prog 29 #[x0] (fun t31 w =>
  M.extract 0 t31 (fun t32 w =>
  M.extract 1 t31 (fun t33 w =>
  M.extract 2 t31 (fun t34 w =>
  M.call Try.prog 32 #[x0] (fun t36 w =>
  M.call Try.prog 39 #[t36, x1] (fun t38 w =>
  M.bin .lss t38 (Value.int IntKind.i64 0) (fun t39 w =>
  M.eqB true t39 t28 (fun t41 w =>
  M.cond t41
  (R (Value.bool false) w)
  (M.not t34 (fun t43 w =>
  M.cond t43
  (M.not t28 (fun t45 w =>
  M.gd t45 true (fun k w => M.call Try.prog 28 #[] k w) (fun t47 w =>
  M.pick t45 t47 (Value.bool false) (fun t48 w =>
  R t48 w) w) w) w)
  (M.call Try.prog 39 #[t32, x1] (fun t51 w =>
  M.bin .lss t51 (Value.int IntKind.i64 0) (fun t52 w =>
  M.loop [t52, (Value.int IntKind.i64 0)] (fun s1 K1 w => ∀ _ : List Value,
  M.len t33 (fun t55 w =>
  M.bin .lss (s1.getD 1 undef) t55 (fun t56 w =>
  M.cond t56
  (M.gd (s1.getD 0 undef) true (fun k w => k t33 w) (fun t61 w =>
  M.gd (s1.getD 0 undef) true (fun k w => k (s1.getD 1 undef) w) (fun t62 w =>
  M.gd (s1.getD 0 undef) true (fun k w => k (s1.getD 1 undef) w) (fun t63 w =>
  M.gd (s1.getD 0 undef) true (fun k w => M.bin .add t63 (Value.int IntKind.i64 1) k w) (fun t64 w =>
  M.gd (s1.getD 0 undef) true (fun k w => M.slice 1 t61 (some t62) (some t64) none k w) (fun t65 w =>
  M.gd (s1.getD 0 undef) true (fun k w => k x1 w) (fun t66 w =>
  M.gd (s1.getD 0 undef) true (fun k w => M.call Try.prog 18 #[t65, t66] k w) (fun t67 w =>
  M.pick (s1.getD 0 undef) t67 (Value.bool false) (fun t68 w =>
  M.bin .add (s1.getD 1 undef) (Value.int IntKind.i64 1) (fun t58 w =>
  K1 [t68, t58] w) w) w) w) w) w) w) w) w) w)
  (M.eqB false (s1.getD 0 undef) t28 (fun t71 w =>
  M.gd t71 true (fun k w => M.call Try.prog 28 #[] k w) (fun t73 w =>
  M.pick t71 t73 (Value.bool false) (fun t74 w =>
  R t74 w) w) w) w)) w) w) w) w) w)) w)) w) w) w) w) w) w) w) w) w) w)) w) w) w) w) w) w) w) w) w) w
theorem ok9 (x0 x1 : Value) (R : Kt) (w : World) (h : sh9 x0 x1 R w) : Ret Try.prog 9 #[x0, x1] w R :=
  ret_mk <| calls_of_comp mixed (c := Try.f9.body.getD .skip) (args := [x0, x1]) (rs := [(ResultVar.tmp 4)]) (Ann.seq Ann.text (Ann.seq (Ann.seq Ann.text (Ann.cond (Ann.seq Ann.text Ann.leaf) Ann.leaf)) (Ann.seq Ann.text (Ann.seq Ann.text (Ann.seq (Ann.seq Ann.text (Ann.cond (Ann.seq Ann.text Ann.leaf) Ann.leaf)) (Ann.seq (Ann.seq Ann.text (Ann.cond (Ann.seq Ann.text Ann.leaf) Ann.leaf)) (Ann.seq Ann.text (Ann.seq (Ann.seq Ann.text (Ann.block (Ann.loop [9, 10] [53, 54, 55, 56, 57, 58, 59, 60, 61, 62, 63, 64, 65, 66, 67, 68] (Ann.seq (Ann.seq Ann.text (Ann.cond Ann.leaf Ann.leaf)) (Ann.seq (Ann.block Ann.text) Ann.text))))) (Ann.seq Ann.text Ann.leaf)))))))))
    Try.func9 (by kernel_rfl) (by kernel_rfl)
    (Eq.mp (by kernel_rfl) h)
/-! breakwater/breakwaterlaw43.SimpPure: function 10 -/
def sh10 (x0 x1 : Value) (R : Kt) (w : World) : Prop :=
  M.call Try.prog 27 #[x1, (Value.int IntKind.i64 60)] (fun t14 w =>
  M.bin .eql t14 (Value.int IntKind.i64 0) (fun t15 w =>
  M.gd t15 false (fun k w => k x0 w) (fun t17 w =>
  M.gd t15 false (fun k w => M.bin .lss t17 (Value.int IntKind.i64 0) k w) (fun t18 w =>
  M.pick t15 (Value.bool true) t18 (fun t19 w =>
  M.gd t19 false (fun k w => k x0 w) (fun t21 w =>
  M.gd t19 false (fun k w => M.bin .gtr t21 (Value.int IntKind.i64 8) k w) (fun t22 w =>
  M.pick t19 (Value.bool true) t22 (fun t23 w =>
  M.gd t23 false (fun k w => k x0 w) (fun t25 w =>
  M.gd t23 false (fun k w => k x1 w) (fun t26 w =>
  M.gd t23 false (fun k w => M.call Try.prog 38 #[t25, t26] k w) (fun t27 w =>
  M.gd t23 false (fun k w => M.bin .neq t27 (Value.int IntKind.i64 0) k w) (fun t28 w =>
  M.pick t23 (Value.bool true) t28 (fun t29 w =>
  M.cond t29
  (M.call Try.prog 28 #[] (fun t30 w =>
  R t30 w) w)
  (M.call Try.prog 34 #[x1] (fun t32 w =>
  M.call Try.prog 36 #[x1, t32] (fun t35 w =>
  M.call Try.prog 40 #[x0, x1] (fun t39 w =>
  M.extract 0 t39 (fun t40 w =>
  M.extract 1 t39 (fun t41 w =>
  M.call Try.prog 40 #[x0, t35] (fun t45 w =>
  M.extract 0 t45 (fun t46 w =>
  M.extract 1 t45 (fun t47 w =>
  M.loop [(Value.int IntKind.i64 0)] (fun s1 K1 w => ∀ _ : List Value,
  M.len t35 (fun t50 w =>
  M.bin .lss (s1.getD 0 undef) t50 (fun t51 w =>
  M.cond t51
  (M.loop [(Value.int IntKind.i64 0)] (fun s2 K2 w => ∀ _ : List Value,
  M.indexSl 1 t35 (s1.getD 0 undef) (fun t57 w =>
  M.load1 t57 (fun t58 w =>
  M.len t58 (fun t59 w =>
  M.bin .lss (s2.getD 0 undef) t59 (fun t60 w =>
  M.cond t60
  (M.indexSl 1 t35 (s1.getD 0 undef) (fun t66 w =>
  M.load1 t66 (fun t67 w =>
  M.indexSl 1 t67 (s2.getD 0 undef) (fun t69 w =>
  M.load1 t69 (fun t70 w =>
  M.call Try.prog 20 #[t32, t70] (fun t71 w =>
  M.cond t71
  (R (Value.bool false) w)
  (M.bin .add (s2.getD 0 undef) (Value.int IntKind.i64 1) (fun t62 w =>
  K2 [t62] w) w)) w) w) w) w) w)
  (M.bin .add (s1.getD 0 undef) (Value.int IntKind.i64 1) (fun t53 w =>
  K1 [t53] w) w)) w) w) w) w) w)
  (M.bin .gtr t40 (Value.int IntKind.i64 0) (fun t73 w =>
  M.bin .gtr t46 (Value.int IntKind.i64 0) (fun t75 w =>
  M.eqB false t73 t75 (fun t76 w =>
  M.gd t76 true (fun k w => M.call Try.prog 28 #[] k w) (fun t78 w =>
  M.pick t76 t78 (Value.bool false) (fun t79 w =>
  R t79 w) w) w) w) w) w)) w) w) w) w) w) w) w) w) w) w) w)) w) w) w) w) w) w) w) w) w) w) w) w) w
theorem ok10 (x0 x1 : Value) (R : Kt) (w : World) (h : sh10 x0 x1 R w) : Ret Try.prog 10 #[x0, x1] w R :=
  ret_mk <| calls_of_comp mixed (c := Try.f10.body.getD .skip) (args := [x0, x1]) (rs := [(ResultVar.tmp 4)]) (Ann.seq Ann.text (Ann.seq (Ann.seq Ann.text (Ann.cond (Ann.seq Ann.text Ann.leaf) Ann.leaf)) (Ann.seq Ann.text (Ann.seq Ann.text (Ann.seq Ann.text (Ann.seq Ann.text (Ann.seq (Ann.seq Ann.text (Ann.block (Ann.loop [11] [4, 12, 48, 49, 50, 51, 52, 53, 54, 55, 56, 57, 58, 59, 60, 61, 62, 63, 64, 65, 66, 67, 68, 69, 70, 71] (Ann.seq (Ann.seq Ann.text (Ann.cond Ann.leaf Ann.leaf)) (Ann.seq (Ann.block (Ann.seq Ann.text (Ann.block (Ann.loop [12] [4, 54, 55, 56, 57, 58, 59, 60, 61, 62, 63, 64, 65, 66, 67, 68, 69, 70, 71] (Ann.seq (Ann.seq Ann.text (Ann.cond Ann.leaf Ann.leaf)) (Ann.seq (Ann.block (Ann.seq Ann.text (Ann.cond (Ann.seq Ann.text Ann.leaf) Ann.leaf))) Ann.text)))))) Ann.text))))) (Ann.seq Ann.text Ann.leaf))))))))
    Try.func10 (by kernel_rfl) (by kernel_rfl)
    (Eq.mp (by kernel_rfl) h)

theorem at_of {w : World} {D : Nat → Prop} (ps : List (Value × List Int)) (h : ∀ p ∈ ps, LV vi w D p.1 p.2) : ∀ (i : Nat) e, (ps.map (·.2))[i]? = some e → ∃ x, (ps.map (·.1))[i]? = some x ∧ LV vi w D x e := by
  intro i e he
  rw [List.getElem?_map] at he ⊢
  cases hp : ps[i]? with
  | none => rw [hp] at he; simp at he
  | some p =>
    rw [hp] at he
    simp only [Option.map_some, Option.some.injEq] at he
    subst he
    exact ⟨p.1, rfl, h p (List.mem_of_getElem? hp)⟩
theorem all_self {l : List (List Int)} : decide (l = l) = true := decide_eq_true rfl
theorem few_smalls {l : List (List Int)} (h : l.all (fun c => decide (c.length ≤ 100)) = true) : ∀ c ∈ l, c.length ≤ 100000000 := fun c hc => by
  have := List.all_eq_true.1 h c hc
  simp at this; omega
set_option maxHeartbeats 4000000 in
theorem awake43_ret (w : World) : Ret Try.prog 28 #[] w (fun v w' => v = .bool true ∧ Keep w w' No) := by
  refine ok28 _ _ ?_
  unfold sh28
  refine M.buildSlice_i [vi 0] (by kernel_rfl) (fun w1 b1 k1 s1 => ?_)
  refine M.buildSlice_i [vi 1, vi 2, vi 4] (by kernel_rfl) (fun w2 b2 k2 s2 => ?_)
  refine M.buildSlice_i [vi 0, vi 6] (by kernel_rfl) (fun w3 b3 k3 s3 => ?_)
  refine M.buildSlice_i [slv w.heap.size 1, slv w1.heap.size 3, slv w2.heap.size 2] (by kernel_rfl) (fun w4 b4 k4 s4 => ?_)
  have b1 := ((b1.keep k2 (fun h => h)).keep k3 (fun h => h)).keep k4 (fun h => h)
  have b2 := (b2.keep k3 (fun h => h)).keep k4 (fun h => h)
  have b3 := b3.keep k4 (fun h => h)
  have k := ((k1.trans k2 (fun _ _ h => h)).trans k3 (fun _ _ h => h)).trans k4 (fun _ _ h => h)
  have A4 := at_of [(slv w.heap.size 1, [0]), (slv w1.heap.size 3, [1, 2, 4]), (slv w2.heap.size 2, [0, 6])] (by
    intro p hp
    simp only [List.mem_cons, List.not_mem_nil, or_false] at hp
    rcases hp with rfl | rfl | rfl
    · exact LV.of_blk b1 rfl
    · exact LV.of_blk b2 rfl
    · exact LV.of_blk b3 rfl)
  refine M.call_i (units_ret (LL.of_blk (l := [[0], [1, 2, 4], [0, 6]]) b4 rfl rfl A4) (by decide) (by decide) (i64_smalls rfl)) ?_; rintro _ w5 ⟨a5, b5, set5, kk5, rfl, hR5, ha5, hb5, k5⟩
  obtain ⟨rfl, rfl⟩ := hR5.uniq (closeB (s := [0]) (by decide) (by decide))
  rw [show (if true = true then unitsL (srt [0]) [[0], [1, 2, 4], [0, 6]] else []) = [[2, 4]] by decide] at ha5
  rw [show srt [0] = [0] by decide] at hb5
  have k := k.trans k5 (fun _ _ h => h)
  refine M.extract_i rfl ?_
  refine M.extract_i rfl ?_
  refine M.extract_i rfl ?_
  refine M.buildSlice_i [vi 0] (by kernel_rfl) (fun w6 b6 k6 s6 => ?_)
  refine M.buildSlice_i [vi 1] (by kernel_rfl) (fun w7 b7 k7 s7 => ?_)
  refine M.buildSlice_i [slv w5.heap.size 1, slv w6.heap.size 1] (by kernel_rfl) (fun w8 b8 k8 s8 => ?_)
  have b6 := (b6.keep k7 (fun h => h)).keep k8 (fun h => h)
  have b7 := b7.keep k8 (fun h => h)
  have kk := (k6.trans k7 (fun _ _ h => h)).trans k8 (fun _ _ h => h)
  refine M.call_i (units_ret (LL.of_blk (l := [[0], [1]]) b8 rfl rfl (two_at (LV.of_blk (xs := [0]) b6 rfl) (LV.of_blk (xs := [1]) b7 rfl))) (by decide) (by decide) (i64_smalls rfl)) ?_; rintro _ w9 ⟨a9, b9, set9, kk9, rfl, hR9, ha9, hb9, k9⟩
  obtain ⟨rfl, rfl⟩ := hR9.uniq (botB (s := [0]) (by decide) (by decide))
  have kk := kk.trans k9 (fun _ _ h => h)
  refine M.extract_i rfl ?_
  refine M.extract_i rfl ?_
  refine M.extract_i rfl ?_
  refine M.buildSlice_i [vi 2, vi 0] (by kernel_rfl) (fun w10 b10 k10 s10 => ?_)
  refine M.buildSlice_i [vi 0, vi 2, vi 4] (by kernel_rfl) (fun w11 b11 k11 s11 => ?_)
  refine M.buildSlice_i [vi 6, vi 7] (by kernel_rfl) (fun w12 b12 k12 s12 => ?_)
  refine M.buildSlice_i [vi 0, vi 2] (by kernel_rfl) (fun w13 b13 k13 s13 => ?_)
  refine M.buildSlice_i [slv w9.heap.size 2, slv w10.heap.size 3, slv w11.heap.size 2, slv w12.heap.size 2] (by kernel_rfl) (fun w14 b14 k14 s14 => ?_)
  have b10 := (((b10.keep k11 (fun h => h)).keep k12 (fun h => h)).keep k13 (fun h => h)).keep k14 (fun h => h)
  have b11 := ((b11.keep k12 (fun h => h)).keep k13 (fun h => h)).keep k14 (fun h => h)
  have b12 := (b12.keep k13 (fun h => h)).keep k14 (fun h => h)
  have b13 := b13.keep k14 (fun h => h)
  have kk := ((((kk.trans k10 (fun _ _ h => h)).trans k11 (fun _ _ h => h)).trans k12 (fun _ _ h => h)).trans k13 (fun _ _ h => h)).trans k14 (fun _ _ h => h)
  have A14 := at_of [(slv w9.heap.size 2, [2, 0]), (slv w10.heap.size 3, [0, 2, 4]), (slv w11.heap.size 2, [6, 7]), (slv w12.heap.size 2, [0, 2])] (by
    intro p hp
    simp only [List.mem_cons, List.not_mem_nil, or_false] at hp
    rcases hp with rfl | rfl | rfl | rfl
    · exact LV.of_blk b10 rfl
    · exact LV.of_blk b11 rfl
    · exact LV.of_blk b12 rfl
    · exact LV.of_blk b13 rfl)
  refine M.call_i (subsume_ret (LL.of_blk (l := [[2, 0], [0, 2, 4], [6, 7], [0, 2]]) b14 rfl rfl A14) (by decide) (few_smalls rfl) (i64_smalls rfl)) ?_; rintro c15 w15 ⟨hc15, k15⟩
  rw [show subsL [[2, 0], [0, 2, 4], [6, 7], [0, 2]] = [[0, 2]] by decide] at hc15
  have kk := kk.trans k15 (fun _ _ h => h)
  refine M.buildSlice_i [vi 2, vi 4] (by kernel_rfl) (fun w16 b16 k16 s16 => ?_)
  refine M.buildSlice_i [slv w15.heap.size 2] (by kernel_rfl) (fun w17 b17 k17 s17 => ?_)
  have b16 := b16.keep k17 (fun h => h)
  have kc := k16.trans k17 (fun _ _ h => h)
  have kk := kk.trans kc (fun _ _ h => h)
  have hc15 := hc15.keep kc (fun _ _ _ h => h)
  refine M.call_i (all_ret (ha5.keep kk (fun _ _ _ h => h)) (LL.of_blk (l := [[2, 4]]) b17 rfl rfl (one_at (LV.of_blk (xs := [2, 4]) b16 rfl))) (by decide) (by decide) (fun c hc => by have := few_smalls (l := [[2, 4]]) rfl c hc; omega)) ?_; rintro _ w18 ⟨rfl, k18⟩
  have kk := kk.trans k18 (fun _ _ h => h)
  have hc15 := hc15.keep k18 (fun _ _ _ h => h)
  rw [show decide (([[2, 4]] : List (List Int)) = [[2, 4]]) = true by decide]
  obtain ⟨B5, cb5, rfl, _, _⟩ := id hb5
  (repeat (first | refine M.len_i ?_ | refine M.nilCheck_i ?_ | refine M.field_i ?_ | refine M.draw_i ?_ | refine M.cap_i ?_ | refine M.gd_tt ?_ | refine M.gd_ff ?_ | refine M.gd_ft ?_ | refine M.gd_tf ?_ | refine M.gd_u ?_ | refine M.pick_t ?_ | refine M.pick_f ?_ | refine M.not_t ?_ | refine M.not_f ?_ | refine M.cond_t ?_ | refine M.cond_f ?_ | refine M.eqNilP_tn ?_ | refine M.eqNilP_ts ?_ | refine M.eqNilP_fn ?_ | refine M.eqNilP_fs ?_ | refine M.eqNilS_tn ?_ | refine M.eqNilS_ts ?_ | refine M.eqNilS_fn ?_ | refine M.eqNilS_fs ?_ | refine M.lss_t (by omega) ?_ | refine M.lss_f (by omega) ?_ | refine M.leq_t (by omega) ?_ | refine M.leq_f (by omega) ?_ | refine M.gtr_t (by omega) ?_ | refine M.gtr_f (by omega) ?_ | refine M.geq_t (by omega) ?_ | refine M.geq_f (by omega) ?_ | refine M.eql_t (by omega) ?_ | refine M.eql_f (by omega) ?_ | refine M.neq_t (by omega) ?_ | refine M.neq_f (by omega) ?_ | refine M.add_i (by omega) (by omega) ?_ | refine M.sub_i (by omega) (by omega) ?_ | refine M.load_i (by assumption) ?_ | refine M.loadB_i (by assumption) rfl ?_ | refine M.st_i (by assumption) ?_ | refine M.stB_i (by assumption) rfl ?_ | refine M.gs_ff ?_ | refine M.gs_tt ?_ | refine M.gs_ft ?_ | refine M.gs_tf ?_ | refine M.stAll_i (by assumption) rfl ?_))
  refine M.buildSlice_i [vi 0] (by kernel_rfl) (fun w19 b19 k19 s19 => ?_)
  have kk := kk.trans k19 (fun _ _ h => h)
  have hc15 := hc15.keep k19 (fun _ _ _ h => h)
  (repeat (first | refine M.len_i ?_ | refine M.nilCheck_i ?_ | refine M.field_i ?_ | refine M.draw_i ?_ | refine M.cap_i ?_ | refine M.gd_tt ?_ | refine M.gd_ff ?_ | refine M.gd_ft ?_ | refine M.gd_tf ?_ | refine M.gd_u ?_ | refine M.pick_t ?_ | refine M.pick_f ?_ | refine M.not_t ?_ | refine M.not_f ?_ | refine M.cond_t ?_ | refine M.cond_f ?_ | refine M.eqNilP_tn ?_ | refine M.eqNilP_ts ?_ | refine M.eqNilP_fn ?_ | refine M.eqNilP_fs ?_ | refine M.eqNilS_tn ?_ | refine M.eqNilS_ts ?_ | refine M.eqNilS_fn ?_ | refine M.eqNilS_fs ?_ | refine M.lss_t (by omega) ?_ | refine M.lss_f (by omega) ?_ | refine M.leq_t (by omega) ?_ | refine M.leq_f (by omega) ?_ | refine M.gtr_t (by omega) ?_ | refine M.gtr_f (by omega) ?_ | refine M.geq_t (by omega) ?_ | refine M.geq_f (by omega) ?_ | refine M.eql_t (by omega) ?_ | refine M.eql_f (by omega) ?_ | refine M.neq_t (by omega) ?_ | refine M.neq_f (by omega) ?_ | refine M.add_i (by omega) (by omega) ?_ | refine M.sub_i (by omega) (by omega) ?_ | refine M.load_i (by assumption) ?_ | refine M.loadB_i (by assumption) rfl ?_ | refine M.st_i (by assumption) ?_ | refine M.stB_i (by assumption) rfl ?_ | refine M.gs_ff ?_ | refine M.gs_tt ?_ | refine M.gs_ft ?_ | refine M.gs_tf ?_ | refine M.stAll_i (by assumption) rfl ?_))
  refine M.call_i (same_ret (hb5.keep kk (fun _ _ _ h => h)) (LV.of_blk (xs := [0]) b19 rfl) (by decide)) ?_; rintro _ w20 ⟨rfl, k20⟩
  rw [show decide (([0] : List Int) = [0]) = true by decide]
  have kk := kk.trans k20 (fun _ _ h => h)
  have hc15 := hc15.keep k20 (fun _ _ _ h => h)
  (repeat (first | refine M.len_i ?_ | refine M.nilCheck_i ?_ | refine M.field_i ?_ | refine M.draw_i ?_ | refine M.cap_i ?_ | refine M.gd_tt ?_ | refine M.gd_ff ?_ | refine M.gd_ft ?_ | refine M.gd_tf ?_ | refine M.gd_u ?_ | refine M.pick_t ?_ | refine M.pick_f ?_ | refine M.not_t ?_ | refine M.not_f ?_ | refine M.cond_t ?_ | refine M.cond_f ?_ | refine M.eqNilP_tn ?_ | refine M.eqNilP_ts ?_ | refine M.eqNilP_fn ?_ | refine M.eqNilP_fs ?_ | refine M.eqNilS_tn ?_ | refine M.eqNilS_ts ?_ | refine M.eqNilS_fn ?_ | refine M.eqNilS_fs ?_ | refine M.lss_t (by omega) ?_ | refine M.lss_f (by omega) ?_ | refine M.leq_t (by omega) ?_ | refine M.leq_f (by omega) ?_ | refine M.gtr_t (by omega) ?_ | refine M.gtr_f (by omega) ?_ | refine M.geq_t (by omega) ?_ | refine M.geq_f (by omega) ?_ | refine M.eql_t (by omega) ?_ | refine M.eql_f (by omega) ?_ | refine M.neq_t (by omega) ?_ | refine M.neq_f (by omega) ?_ | refine M.add_i (by omega) (by omega) ?_ | refine M.sub_i (by omega) (by omega) ?_ | refine M.load_i (by assumption) ?_ | refine M.loadB_i (by assumption) rfl ?_ | refine M.st_i (by assumption) ?_ | refine M.stB_i (by assumption) rfl ?_ | refine M.gs_ff ?_ | refine M.gs_tt ?_ | refine M.gs_ft ?_ | refine M.gs_tf ?_ | refine M.stAll_i (by assumption) rfl ?_))
  refine M.buildSlice_i [vi 0, vi 2] (by kernel_rfl) (fun w21 b21 k21 s21 => ?_)
  (repeat (first | refine M.len_i ?_ | refine M.nilCheck_i ?_ | refine M.field_i ?_ | refine M.draw_i ?_ | refine M.cap_i ?_ | refine M.gd_tt ?_ | refine M.gd_ff ?_ | refine M.gd_ft ?_ | refine M.gd_tf ?_ | refine M.gd_u ?_ | refine M.pick_t ?_ | refine M.pick_f ?_ | refine M.not_t ?_ | refine M.not_f ?_ | refine M.cond_t ?_ | refine M.cond_f ?_ | refine M.eqNilP_tn ?_ | refine M.eqNilP_ts ?_ | refine M.eqNilP_fn ?_ | refine M.eqNilP_fs ?_ | refine M.eqNilS_tn ?_ | refine M.eqNilS_ts ?_ | refine M.eqNilS_fn ?_ | refine M.eqNilS_fs ?_ | refine M.lss_t (by omega) ?_ | refine M.lss_f (by omega) ?_ | refine M.leq_t (by omega) ?_ | refine M.leq_f (by omega) ?_ | refine M.gtr_t (by omega) ?_ | refine M.gtr_f (by omega) ?_ | refine M.geq_t (by omega) ?_ | refine M.geq_f (by omega) ?_ | refine M.eql_t (by omega) ?_ | refine M.eql_f (by omega) ?_ | refine M.neq_t (by omega) ?_ | refine M.neq_f (by omega) ?_ | refine M.add_i (by omega) (by omega) ?_ | refine M.sub_i (by omega) (by omega) ?_ | refine M.load_i (by assumption) ?_ | refine M.loadB_i (by assumption) rfl ?_ | refine M.st_i (by assumption) ?_ | refine M.stB_i (by assumption) rfl ?_ | refine M.gs_ff ?_ | refine M.gs_tt ?_ | refine M.gs_ft ?_ | refine M.gs_tf ?_ | refine M.stAll_i (by assumption) rfl ?_))
  refine M.buildSlice_i [slv w20.heap.size 2] (by kernel_rfl) (fun w22 b22 k22 s22 => ?_)
  have b21 := b21.keep k22 (fun h => h)
  have kc := k21.trans k22 (fun _ _ h => h)
  have kk := kk.trans kc (fun _ _ h => h)
  (repeat (first | refine M.len_i ?_ | refine M.nilCheck_i ?_ | refine M.field_i ?_ | refine M.draw_i ?_ | refine M.cap_i ?_ | refine M.gd_tt ?_ | refine M.gd_ff ?_ | refine M.gd_ft ?_ | refine M.gd_tf ?_ | refine M.gd_u ?_ | refine M.pick_t ?_ | refine M.pick_f ?_ | refine M.not_t ?_ | refine M.not_f ?_ | refine M.cond_t ?_ | refine M.cond_f ?_ | refine M.eqNilP_tn ?_ | refine M.eqNilP_ts ?_ | refine M.eqNilP_fn ?_ | refine M.eqNilP_fs ?_ | refine M.eqNilS_tn ?_ | refine M.eqNilS_ts ?_ | refine M.eqNilS_fn ?_ | refine M.eqNilS_fs ?_ | refine M.lss_t (by omega) ?_ | refine M.lss_f (by omega) ?_ | refine M.leq_t (by omega) ?_ | refine M.leq_f (by omega) ?_ | refine M.gtr_t (by omega) ?_ | refine M.gtr_f (by omega) ?_ | refine M.geq_t (by omega) ?_ | refine M.geq_f (by omega) ?_ | refine M.eql_t (by omega) ?_ | refine M.eql_f (by omega) ?_ | refine M.neq_t (by omega) ?_ | refine M.neq_f (by omega) ?_ | refine M.add_i (by omega) (by omega) ?_ | refine M.sub_i (by omega) (by omega) ?_ | refine M.load_i (by assumption) ?_ | refine M.loadB_i (by assumption) rfl ?_ | refine M.st_i (by assumption) ?_ | refine M.stB_i (by assumption) rfl ?_ | refine M.gs_ff ?_ | refine M.gs_tt ?_ | refine M.gs_ft ?_ | refine M.gs_tf ?_ | refine M.stAll_i (by assumption) rfl ?_))
  refine M.call_i (all_ret (hc15.keep kc (fun _ _ _ h => h)) (LL.of_blk (l := [[0, 2]]) b22 rfl rfl (one_at (LV.of_blk (xs := [0, 2]) b21 rfl))) (by decide) (by decide) (fun c hc => by have := few_smalls (l := [[0, 2]]) rfl c hc; omega)) ?_; rintro _ w23 ⟨rfl, k23⟩
  have kk := kk.trans k23 (fun _ _ h => h)
  rw [show decide (([[0, 2]] : List (List Int)) = [[0, 2]]) = true by decide]
  (repeat (first | refine M.len_i ?_ | refine M.nilCheck_i ?_ | refine M.field_i ?_ | refine M.draw_i ?_ | refine M.cap_i ?_ | refine M.gd_tt ?_ | refine M.gd_ff ?_ | refine M.gd_ft ?_ | refine M.gd_tf ?_ | refine M.gd_u ?_ | refine M.pick_t ?_ | refine M.pick_f ?_ | refine M.not_t ?_ | refine M.not_f ?_ | refine M.cond_t ?_ | refine M.cond_f ?_ | refine M.eqNilP_tn ?_ | refine M.eqNilP_ts ?_ | refine M.eqNilP_fn ?_ | refine M.eqNilP_fs ?_ | refine M.eqNilS_tn ?_ | refine M.eqNilS_ts ?_ | refine M.eqNilS_fn ?_ | refine M.eqNilS_fs ?_ | refine M.lss_t (by omega) ?_ | refine M.lss_f (by omega) ?_ | refine M.leq_t (by omega) ?_ | refine M.leq_f (by omega) ?_ | refine M.gtr_t (by omega) ?_ | refine M.gtr_f (by omega) ?_ | refine M.geq_t (by omega) ?_ | refine M.geq_f (by omega) ?_ | refine M.eql_t (by omega) ?_ | refine M.eql_f (by omega) ?_ | refine M.neq_t (by omega) ?_ | refine M.neq_f (by omega) ?_ | refine M.add_i (by omega) (by omega) ?_ | refine M.sub_i (by omega) (by omega) ?_ | refine M.load_i (by assumption) ?_ | refine M.loadB_i (by assumption) rfl ?_ | refine M.st_i (by assumption) ?_ | refine M.stB_i (by assumption) rfl ?_ | refine M.gs_ff ?_ | refine M.gs_tt ?_ | refine M.gs_ft ?_ | refine M.gs_tf ?_ | refine M.stAll_i (by assumption) rfl ?_))
  refine M.buildSlice_i [vi 0, vi 2] (by kernel_rfl) (fun w24 b24 k24 s24 => ?_)
  (repeat (first | refine M.len_i ?_ | refine M.nilCheck_i ?_ | refine M.field_i ?_ | refine M.draw_i ?_ | refine M.cap_i ?_ | refine M.gd_tt ?_ | refine M.gd_ff ?_ | refine M.gd_ft ?_ | refine M.gd_tf ?_ | refine M.gd_u ?_ | refine M.pick_t ?_ | refine M.pick_f ?_ | refine M.not_t ?_ | refine M.not_f ?_ | refine M.cond_t ?_ | refine M.cond_f ?_ | refine M.eqNilP_tn ?_ | refine M.eqNilP_ts ?_ | refine M.eqNilP_fn ?_ | refine M.eqNilP_fs ?_ | refine M.eqNilS_tn ?_ | refine M.eqNilS_ts ?_ | refine M.eqNilS_fn ?_ | refine M.eqNilS_fs ?_ | refine M.lss_t (by omega) ?_ | refine M.lss_f (by omega) ?_ | refine M.leq_t (by omega) ?_ | refine M.leq_f (by omega) ?_ | refine M.gtr_t (by omega) ?_ | refine M.gtr_f (by omega) ?_ | refine M.geq_t (by omega) ?_ | refine M.geq_f (by omega) ?_ | refine M.eql_t (by omega) ?_ | refine M.eql_f (by omega) ?_ | refine M.neq_t (by omega) ?_ | refine M.neq_f (by omega) ?_ | refine M.add_i (by omega) (by omega) ?_ | refine M.sub_i (by omega) (by omega) ?_ | refine M.load_i (by assumption) ?_ | refine M.loadB_i (by assumption) rfl ?_ | refine M.st_i (by assumption) ?_ | refine M.stB_i (by assumption) rfl ?_ | refine M.gs_ff ?_ | refine M.gs_tt ?_ | refine M.gs_ft ?_ | refine M.gs_tf ?_ | refine M.stAll_i (by assumption) rfl ?_))
  refine M.buildSlice_i [vi 3, vi 4] (by kernel_rfl) (fun w25 b25 k25 s25 => ?_)
  (repeat (first | refine M.len_i ?_ | refine M.nilCheck_i ?_ | refine M.field_i ?_ | refine M.draw_i ?_ | refine M.cap_i ?_ | refine M.gd_tt ?_ | refine M.gd_ff ?_ | refine M.gd_ft ?_ | refine M.gd_tf ?_ | refine M.gd_u ?_ | refine M.pick_t ?_ | refine M.pick_f ?_ | refine M.not_t ?_ | refine M.not_f ?_ | refine M.cond_t ?_ | refine M.cond_f ?_ | refine M.eqNilP_tn ?_ | refine M.eqNilP_ts ?_ | refine M.eqNilP_fn ?_ | refine M.eqNilP_fs ?_ | refine M.eqNilS_tn ?_ | refine M.eqNilS_ts ?_ | refine M.eqNilS_fn ?_ | refine M.eqNilS_fs ?_ | refine M.lss_t (by omega) ?_ | refine M.lss_f (by omega) ?_ | refine M.leq_t (by omega) ?_ | refine M.leq_f (by omega) ?_ | refine M.gtr_t (by omega) ?_ | refine M.gtr_f (by omega) ?_ | refine M.geq_t (by omega) ?_ | refine M.geq_f (by omega) ?_ | refine M.eql_t (by omega) ?_ | refine M.eql_f (by omega) ?_ | refine M.neq_t (by omega) ?_ | refine M.neq_f (by omega) ?_ | refine M.add_i (by omega) (by omega) ?_ | refine M.sub_i (by omega) (by omega) ?_ | refine M.load_i (by assumption) ?_ | refine M.loadB_i (by assumption) rfl ?_ | refine M.st_i (by assumption) ?_ | refine M.stB_i (by assumption) rfl ?_ | refine M.gs_ff ?_ | refine M.gs_tt ?_ | refine M.gs_ft ?_ | refine M.gs_tf ?_ | refine M.stAll_i (by assumption) rfl ?_))
  refine M.buildSlice_i [slv w23.heap.size 2, slv w24.heap.size 2] (by kernel_rfl) (fun w26 b26 k26 s26 => ?_)
  have b24 := (b24.keep k25 (fun h => h)).keep k26 (fun h => h)
  have b25 := b25.keep k26 (fun h => h)
  have kk := ((kk.trans k24 (fun _ _ h => h)).trans k25 (fun _ _ h => h)).trans k26 (fun _ _ h => h)
  (repeat (first | refine M.len_i ?_ | refine M.nilCheck_i ?_ | refine M.field_i ?_ | refine M.draw_i ?_ | refine M.cap_i ?_ | refine M.gd_tt ?_ | refine M.gd_ff ?_ | refine M.gd_ft ?_ | refine M.gd_tf ?_ | refine M.gd_u ?_ | refine M.pick_t ?_ | refine M.pick_f ?_ | refine M.not_t ?_ | refine M.not_f ?_ | refine M.cond_t ?_ | refine M.cond_f ?_ | refine M.eqNilP_tn ?_ | refine M.eqNilP_ts ?_ | refine M.eqNilP_fn ?_ | refine M.eqNilP_fs ?_ | refine M.eqNilS_tn ?_ | refine M.eqNilS_ts ?_ | refine M.eqNilS_fn ?_ | refine M.eqNilS_fs ?_ | refine M.lss_t (by omega) ?_ | refine M.lss_f (by omega) ?_ | refine M.leq_t (by omega) ?_ | refine M.leq_f (by omega) ?_ | refine M.gtr_t (by omega) ?_ | refine M.gtr_f (by omega) ?_ | refine M.geq_t (by omega) ?_ | refine M.geq_f (by omega) ?_ | refine M.eql_t (by omega) ?_ | refine M.eql_f (by omega) ?_ | refine M.neq_t (by omega) ?_ | refine M.neq_f (by omega) ?_ | refine M.add_i (by omega) (by omega) ?_ | refine M.sub_i (by omega) (by omega) ?_ | refine M.load_i (by assumption) ?_ | refine M.loadB_i (by assumption) rfl ?_ | refine M.st_i (by assumption) ?_ | refine M.stB_i (by assumption) rfl ?_ | refine M.gs_ff ?_ | refine M.gs_tt ?_ | refine M.gs_ft ?_ | refine M.gs_tf ?_ | refine M.stAll_i (by assumption) rfl ?_))
  refine M.call_i (pure_ret (LL.of_blk (l := [[0, 2], [3, 4]]) b26 rfl rfl (two_at (LV.of_blk (xs := [0, 2]) b24 rfl) (LV.of_blk (xs := [3, 4]) b25 rfl))) (by decide) (by decide) (i64_smalls rfl)) ?_; rintro v27 w27 ⟨g27, k27⟩
  rw [show pureL [[0, 2], [3, 4]] = [0, 4] by decide] at g27
  (repeat (first | refine M.len_i ?_ | refine M.nilCheck_i ?_ | refine M.field_i ?_ | refine M.draw_i ?_ | refine M.cap_i ?_ | refine M.gd_tt ?_ | refine M.gd_ff ?_ | refine M.gd_ft ?_ | refine M.gd_tf ?_ | refine M.gd_u ?_ | refine M.pick_t ?_ | refine M.pick_f ?_ | refine M.not_t ?_ | refine M.not_f ?_ | refine M.cond_t ?_ | refine M.cond_f ?_ | refine M.eqNilP_tn ?_ | refine M.eqNilP_ts ?_ | refine M.eqNilP_fn ?_ | refine M.eqNilP_fs ?_ | refine M.eqNilS_tn ?_ | refine M.eqNilS_ts ?_ | refine M.eqNilS_fn ?_ | refine M.eqNilS_fs ?_ | refine M.lss_t (by omega) ?_ | refine M.lss_f (by omega) ?_ | refine M.leq_t (by omega) ?_ | refine M.leq_f (by omega) ?_ | refine M.gtr_t (by omega) ?_ | refine M.gtr_f (by omega) ?_ | refine M.geq_t (by omega) ?_ | refine M.geq_f (by omega) ?_ | refine M.eql_t (by omega) ?_ | refine M.eql_f (by omega) ?_ | refine M.neq_t (by omega) ?_ | refine M.neq_f (by omega) ?_ | refine M.add_i (by omega) (by omega) ?_ | refine M.sub_i (by omega) (by omega) ?_ | refine M.load_i (by assumption) ?_ | refine M.loadB_i (by assumption) rfl ?_ | refine M.st_i (by assumption) ?_ | refine M.stB_i (by assumption) rfl ?_ | refine M.gs_ff ?_ | refine M.gs_tt ?_ | refine M.gs_ft ?_ | refine M.gs_tf ?_ | refine M.stAll_i (by assumption) rfl ?_))
  refine M.buildSlice_i [vi 0, vi 4] (by kernel_rfl) (fun w28 b28 k28 s28 => ?_)
  have kk := (kk.trans k27 (fun _ _ h => h)).trans k28 (fun _ _ h => h)
  (repeat (first | refine M.len_i ?_ | refine M.nilCheck_i ?_ | refine M.field_i ?_ | refine M.draw_i ?_ | refine M.cap_i ?_ | refine M.gd_tt ?_ | refine M.gd_ff ?_ | refine M.gd_ft ?_ | refine M.gd_tf ?_ | refine M.gd_u ?_ | refine M.pick_t ?_ | refine M.pick_f ?_ | refine M.not_t ?_ | refine M.not_f ?_ | refine M.cond_t ?_ | refine M.cond_f ?_ | refine M.eqNilP_tn ?_ | refine M.eqNilP_ts ?_ | refine M.eqNilP_fn ?_ | refine M.eqNilP_fs ?_ | refine M.eqNilS_tn ?_ | refine M.eqNilS_ts ?_ | refine M.eqNilS_fn ?_ | refine M.eqNilS_fs ?_ | refine M.lss_t (by omega) ?_ | refine M.lss_f (by omega) ?_ | refine M.leq_t (by omega) ?_ | refine M.leq_f (by omega) ?_ | refine M.gtr_t (by omega) ?_ | refine M.gtr_f (by omega) ?_ | refine M.geq_t (by omega) ?_ | refine M.geq_f (by omega) ?_ | refine M.eql_t (by omega) ?_ | refine M.eql_f (by omega) ?_ | refine M.neq_t (by omega) ?_ | refine M.neq_f (by omega) ?_ | refine M.add_i (by omega) (by omega) ?_ | refine M.sub_i (by omega) (by omega) ?_ | refine M.load_i (by assumption) ?_ | refine M.loadB_i (by assumption) rfl ?_ | refine M.st_i (by assumption) ?_ | refine M.stB_i (by assumption) rfl ?_ | refine M.gs_ff ?_ | refine M.gs_tt ?_ | refine M.gs_ft ?_ | refine M.gs_tf ?_ | refine M.stAll_i (by assumption) rfl ?_))
  refine M.call_i (same_ret (GI.lv (g27.keep k28 (fun _ _ _ h => h))) (LV.of_blk (xs := [0, 4]) b28 rfl) (by decide)) ?_; rintro _ w29 ⟨rfl, k29⟩
  rw [show decide (([0, 4] : List Int) = [0, 4]) = true by decide]
  have kk := kk.trans k29 (fun _ _ h => h)
  (repeat (first | refine M.len_i ?_ | refine M.nilCheck_i ?_ | refine M.field_i ?_ | refine M.draw_i ?_ | refine M.cap_i ?_ | refine M.gd_tt ?_ | refine M.gd_ff ?_ | refine M.gd_ft ?_ | refine M.gd_tf ?_ | refine M.gd_u ?_ | refine M.pick_t ?_ | refine M.pick_f ?_ | refine M.not_t ?_ | refine M.not_f ?_ | refine M.cond_t ?_ | refine M.cond_f ?_ | refine M.eqNilP_tn ?_ | refine M.eqNilP_ts ?_ | refine M.eqNilP_fn ?_ | refine M.eqNilP_fs ?_ | refine M.eqNilS_tn ?_ | refine M.eqNilS_ts ?_ | refine M.eqNilS_fn ?_ | refine M.eqNilS_fs ?_ | refine M.lss_t (by omega) ?_ | refine M.lss_f (by omega) ?_ | refine M.leq_t (by omega) ?_ | refine M.leq_f (by omega) ?_ | refine M.gtr_t (by omega) ?_ | refine M.gtr_f (by omega) ?_ | refine M.geq_t (by omega) ?_ | refine M.geq_f (by omega) ?_ | refine M.eql_t (by omega) ?_ | refine M.eql_f (by omega) ?_ | refine M.neq_t (by omega) ?_ | refine M.neq_f (by omega) ?_ | refine M.add_i (by omega) (by omega) ?_ | refine M.sub_i (by omega) (by omega) ?_ | refine M.load_i (by assumption) ?_ | refine M.loadB_i (by assumption) rfl ?_ | refine M.st_i (by assumption) ?_ | refine M.stB_i (by assumption) rfl ?_ | refine M.gs_ff ?_ | refine M.gs_tt ?_ | refine M.gs_ft ?_ | refine M.gs_tf ?_ | refine M.stAll_i (by assumption) rfl ?_))
  refine M.buildSlice_i [vi 0, vi 2] (by kernel_rfl) (fun w30 b30 k30 s30 => ?_)
  (repeat (first | refine M.len_i ?_ | refine M.nilCheck_i ?_ | refine M.field_i ?_ | refine M.draw_i ?_ | refine M.cap_i ?_ | refine M.gd_tt ?_ | refine M.gd_ff ?_ | refine M.gd_ft ?_ | refine M.gd_tf ?_ | refine M.gd_u ?_ | refine M.pick_t ?_ | refine M.pick_f ?_ | refine M.not_t ?_ | refine M.not_f ?_ | refine M.cond_t ?_ | refine M.cond_f ?_ | refine M.eqNilP_tn ?_ | refine M.eqNilP_ts ?_ | refine M.eqNilP_fn ?_ | refine M.eqNilP_fs ?_ | refine M.eqNilS_tn ?_ | refine M.eqNilS_ts ?_ | refine M.eqNilS_fn ?_ | refine M.eqNilS_fs ?_ | refine M.lss_t (by omega) ?_ | refine M.lss_f (by omega) ?_ | refine M.leq_t (by omega) ?_ | refine M.leq_f (by omega) ?_ | refine M.gtr_t (by omega) ?_ | refine M.gtr_f (by omega) ?_ | refine M.geq_t (by omega) ?_ | refine M.geq_f (by omega) ?_ | refine M.eql_t (by omega) ?_ | refine M.eql_f (by omega) ?_ | refine M.neq_t (by omega) ?_ | refine M.neq_f (by omega) ?_ | refine M.add_i (by omega) (by omega) ?_ | refine M.sub_i (by omega) (by omega) ?_ | refine M.load_i (by assumption) ?_ | refine M.loadB_i (by assumption) rfl ?_ | refine M.st_i (by assumption) ?_ | refine M.stB_i (by assumption) rfl ?_ | refine M.gs_ff ?_ | refine M.gs_tt ?_ | refine M.gs_ft ?_ | refine M.gs_tf ?_ | refine M.stAll_i (by assumption) rfl ?_))
  refine M.buildSlice_i [vi 3, vi 4] (by kernel_rfl) (fun w31 b31 k31 s31 => ?_)
  (repeat (first | refine M.len_i ?_ | refine M.nilCheck_i ?_ | refine M.field_i ?_ | refine M.draw_i ?_ | refine M.cap_i ?_ | refine M.gd_tt ?_ | refine M.gd_ff ?_ | refine M.gd_ft ?_ | refine M.gd_tf ?_ | refine M.gd_u ?_ | refine M.pick_t ?_ | refine M.pick_f ?_ | refine M.not_t ?_ | refine M.not_f ?_ | refine M.cond_t ?_ | refine M.cond_f ?_ | refine M.eqNilP_tn ?_ | refine M.eqNilP_ts ?_ | refine M.eqNilP_fn ?_ | refine M.eqNilP_fs ?_ | refine M.eqNilS_tn ?_ | refine M.eqNilS_ts ?_ | refine M.eqNilS_fn ?_ | refine M.eqNilS_fs ?_ | refine M.lss_t (by omega) ?_ | refine M.lss_f (by omega) ?_ | refine M.leq_t (by omega) ?_ | refine M.leq_f (by omega) ?_ | refine M.gtr_t (by omega) ?_ | refine M.gtr_f (by omega) ?_ | refine M.geq_t (by omega) ?_ | refine M.geq_f (by omega) ?_ | refine M.eql_t (by omega) ?_ | refine M.eql_f (by omega) ?_ | refine M.neq_t (by omega) ?_ | refine M.neq_f (by omega) ?_ | refine M.add_i (by omega) (by omega) ?_ | refine M.sub_i (by omega) (by omega) ?_ | refine M.load_i (by assumption) ?_ | refine M.loadB_i (by assumption) rfl ?_ | refine M.st_i (by assumption) ?_ | refine M.stB_i (by assumption) rfl ?_ | refine M.gs_ff ?_ | refine M.gs_tt ?_ | refine M.gs_ft ?_ | refine M.gs_tf ?_ | refine M.stAll_i (by assumption) rfl ?_))
  refine M.buildSlice_i [slv w29.heap.size 2, slv w30.heap.size 2] (by kernel_rfl) (fun w32 b32 k32 s32 => ?_)
  (repeat (first | refine M.len_i ?_ | refine M.nilCheck_i ?_ | refine M.field_i ?_ | refine M.draw_i ?_ | refine M.cap_i ?_ | refine M.gd_tt ?_ | refine M.gd_ff ?_ | refine M.gd_ft ?_ | refine M.gd_tf ?_ | refine M.gd_u ?_ | refine M.pick_t ?_ | refine M.pick_f ?_ | refine M.not_t ?_ | refine M.not_f ?_ | refine M.cond_t ?_ | refine M.cond_f ?_ | refine M.eqNilP_tn ?_ | refine M.eqNilP_ts ?_ | refine M.eqNilP_fn ?_ | refine M.eqNilP_fs ?_ | refine M.eqNilS_tn ?_ | refine M.eqNilS_ts ?_ | refine M.eqNilS_fn ?_ | refine M.eqNilS_fs ?_ | refine M.lss_t (by omega) ?_ | refine M.lss_f (by omega) ?_ | refine M.leq_t (by omega) ?_ | refine M.leq_f (by omega) ?_ | refine M.gtr_t (by omega) ?_ | refine M.gtr_f (by omega) ?_ | refine M.geq_t (by omega) ?_ | refine M.geq_f (by omega) ?_ | refine M.eql_t (by omega) ?_ | refine M.eql_f (by omega) ?_ | refine M.neq_t (by omega) ?_ | refine M.neq_f (by omega) ?_ | refine M.add_i (by omega) (by omega) ?_ | refine M.sub_i (by omega) (by omega) ?_ | refine M.load_i (by assumption) ?_ | refine M.loadB_i (by assumption) rfl ?_ | refine M.st_i (by assumption) ?_ | refine M.stB_i (by assumption) rfl ?_ | refine M.gs_ff ?_ | refine M.gs_tt ?_ | refine M.gs_ft ?_ | refine M.gs_tf ?_ | refine M.stAll_i (by assumption) rfl ?_))
  refine M.buildSlice_i [vi 4] (by kernel_rfl) (fun w33 b33 k33 s33 => ?_)
  have b30 := ((b30.keep k31 (fun h => h)).keep k32 (fun h => h)).keep k33 (fun h => h)
  have b31 := (b31.keep k32 (fun h => h)).keep k33 (fun h => h)
  have b32 := b32.keep k33 (fun h => h)
  have kk := (((kk.trans k30 (fun _ _ h => h)).trans k31 (fun _ _ h => h)).trans k32 (fun _ _ h => h)).trans k33 (fun _ _ h => h)
  (repeat (first | refine M.len_i ?_ | refine M.nilCheck_i ?_ | refine M.field_i ?_ | refine M.draw_i ?_ | refine M.cap_i ?_ | refine M.gd_tt ?_ | refine M.gd_ff ?_ | refine M.gd_ft ?_ | refine M.gd_tf ?_ | refine M.gd_u ?_ | refine M.pick_t ?_ | refine M.pick_f ?_ | refine M.not_t ?_ | refine M.not_f ?_ | refine M.cond_t ?_ | refine M.cond_f ?_ | refine M.eqNilP_tn ?_ | refine M.eqNilP_ts ?_ | refine M.eqNilP_fn ?_ | refine M.eqNilP_fs ?_ | refine M.eqNilS_tn ?_ | refine M.eqNilS_ts ?_ | refine M.eqNilS_fn ?_ | refine M.eqNilS_fs ?_ | refine M.lss_t (by omega) ?_ | refine M.lss_f (by omega) ?_ | refine M.leq_t (by omega) ?_ | refine M.leq_f (by omega) ?_ | refine M.gtr_t (by omega) ?_ | refine M.gtr_f (by omega) ?_ | refine M.geq_t (by omega) ?_ | refine M.geq_f (by omega) ?_ | refine M.eql_t (by omega) ?_ | refine M.eql_f (by omega) ?_ | refine M.neq_t (by omega) ?_ | refine M.neq_f (by omega) ?_ | refine M.add_i (by omega) (by omega) ?_ | refine M.sub_i (by omega) (by omega) ?_ | refine M.load_i (by assumption) ?_ | refine M.loadB_i (by assumption) rfl ?_ | refine M.st_i (by assumption) ?_ | refine M.stB_i (by assumption) rfl ?_ | refine M.gs_ff ?_ | refine M.gs_tt ?_ | refine M.gs_ft ?_ | refine M.gs_tf ?_ | refine M.stAll_i (by assumption) rfl ?_))
  refine M.call_i (drop_ret (LL.of_blk (l := [[0, 2], [3, 4]]) b32 rfl rfl (two_at (LV.of_blk (xs := [0, 2]) b30 rfl) (LV.of_blk (xs := [3, 4]) b31 rfl))) (LV.of_blk (xs := [4]) b33 rfl) (by decide) (fun c hc => by have := few_smalls (l := [[0, 2], [3, 4]]) rfl c hc; omega) (by decide)) ?_; rintro v34 w34 ⟨g34, k34⟩
  rw [show dropL [[0, 2], [3, 4]] [4] = [[0, 2]] by decide] at g34
  (repeat (first | refine M.len_i ?_ | refine M.nilCheck_i ?_ | refine M.field_i ?_ | refine M.draw_i ?_ | refine M.cap_i ?_ | refine M.gd_tt ?_ | refine M.gd_ff ?_ | refine M.gd_ft ?_ | refine M.gd_tf ?_ | refine M.gd_u ?_ | refine M.pick_t ?_ | refine M.pick_f ?_ | refine M.not_t ?_ | refine M.not_f ?_ | refine M.cond_t ?_ | refine M.cond_f ?_ | refine M.eqNilP_tn ?_ | refine M.eqNilP_ts ?_ | refine M.eqNilP_fn ?_ | refine M.eqNilP_fs ?_ | refine M.eqNilS_tn ?_ | refine M.eqNilS_ts ?_ | refine M.eqNilS_fn ?_ | refine M.eqNilS_fs ?_ | refine M.lss_t (by omega) ?_ | refine M.lss_f (by omega) ?_ | refine M.leq_t (by omega) ?_ | refine M.leq_f (by omega) ?_ | refine M.gtr_t (by omega) ?_ | refine M.gtr_f (by omega) ?_ | refine M.geq_t (by omega) ?_ | refine M.geq_f (by omega) ?_ | refine M.eql_t (by omega) ?_ | refine M.eql_f (by omega) ?_ | refine M.neq_t (by omega) ?_ | refine M.neq_f (by omega) ?_ | refine M.add_i (by omega) (by omega) ?_ | refine M.sub_i (by omega) (by omega) ?_ | refine M.load_i (by assumption) ?_ | refine M.loadB_i (by assumption) rfl ?_ | refine M.st_i (by assumption) ?_ | refine M.stB_i (by assumption) rfl ?_ | refine M.gs_ff ?_ | refine M.gs_tt ?_ | refine M.gs_ft ?_ | refine M.gs_tf ?_ | refine M.stAll_i (by assumption) rfl ?_))
  refine M.buildSlice_i [vi 0, vi 2] (by kernel_rfl) (fun w35 b35 k35 s35 => ?_)
  (repeat (first | refine M.len_i ?_ | refine M.nilCheck_i ?_ | refine M.field_i ?_ | refine M.draw_i ?_ | refine M.cap_i ?_ | refine M.gd_tt ?_ | refine M.gd_ff ?_ | refine M.gd_ft ?_ | refine M.gd_tf ?_ | refine M.gd_u ?_ | refine M.pick_t ?_ | refine M.pick_f ?_ | refine M.not_t ?_ | refine M.not_f ?_ | refine M.cond_t ?_ | refine M.cond_f ?_ | refine M.eqNilP_tn ?_ | refine M.eqNilP_ts ?_ | refine M.eqNilP_fn ?_ | refine M.eqNilP_fs ?_ | refine M.eqNilS_tn ?_ | refine M.eqNilS_ts ?_ | refine M.eqNilS_fn ?_ | refine M.eqNilS_fs ?_ | refine M.lss_t (by omega) ?_ | refine M.lss_f (by omega) ?_ | refine M.leq_t (by omega) ?_ | refine M.leq_f (by omega) ?_ | refine M.gtr_t (by omega) ?_ | refine M.gtr_f (by omega) ?_ | refine M.geq_t (by omega) ?_ | refine M.geq_f (by omega) ?_ | refine M.eql_t (by omega) ?_ | refine M.eql_f (by omega) ?_ | refine M.neq_t (by omega) ?_ | refine M.neq_f (by omega) ?_ | refine M.add_i (by omega) (by omega) ?_ | refine M.sub_i (by omega) (by omega) ?_ | refine M.load_i (by assumption) ?_ | refine M.loadB_i (by assumption) rfl ?_ | refine M.st_i (by assumption) ?_ | refine M.stB_i (by assumption) rfl ?_ | refine M.gs_ff ?_ | refine M.gs_tt ?_ | refine M.gs_ft ?_ | refine M.gs_tf ?_ | refine M.stAll_i (by assumption) rfl ?_))
  refine M.buildSlice_i [slv w34.heap.size 2] (by kernel_rfl) (fun w36 b36 k36 s36 => ?_)
  have b35 := b35.keep k36 (fun h => h)
  have kc := k35.trans k36 (fun _ _ h => h)
  have kk := (kk.trans k34 (fun _ _ h => h)).trans kc (fun _ _ h => h)
  (repeat (first | refine M.len_i ?_ | refine M.nilCheck_i ?_ | refine M.field_i ?_ | refine M.draw_i ?_ | refine M.cap_i ?_ | refine M.gd_tt ?_ | refine M.gd_ff ?_ | refine M.gd_ft ?_ | refine M.gd_tf ?_ | refine M.gd_u ?_ | refine M.pick_t ?_ | refine M.pick_f ?_ | refine M.not_t ?_ | refine M.not_f ?_ | refine M.cond_t ?_ | refine M.cond_f ?_ | refine M.eqNilP_tn ?_ | refine M.eqNilP_ts ?_ | refine M.eqNilP_fn ?_ | refine M.eqNilP_fs ?_ | refine M.eqNilS_tn ?_ | refine M.eqNilS_ts ?_ | refine M.eqNilS_fn ?_ | refine M.eqNilS_fs ?_ | refine M.lss_t (by omega) ?_ | refine M.lss_f (by omega) ?_ | refine M.leq_t (by omega) ?_ | refine M.leq_f (by omega) ?_ | refine M.gtr_t (by omega) ?_ | refine M.gtr_f (by omega) ?_ | refine M.geq_t (by omega) ?_ | refine M.geq_f (by omega) ?_ | refine M.eql_t (by omega) ?_ | refine M.eql_f (by omega) ?_ | refine M.neq_t (by omega) ?_ | refine M.neq_f (by omega) ?_ | refine M.add_i (by omega) (by omega) ?_ | refine M.sub_i (by omega) (by omega) ?_ | refine M.load_i (by assumption) ?_ | refine M.loadB_i (by assumption) rfl ?_ | refine M.st_i (by assumption) ?_ | refine M.stB_i (by assumption) rfl ?_ | refine M.gs_ff ?_ | refine M.gs_tt ?_ | refine M.gs_ft ?_ | refine M.gs_tf ?_ | refine M.stAll_i (by assumption) rfl ?_))
  refine M.call_i (all_ret (g34.keep kc (fun _ _ _ h => h)) (LL.of_blk (l := [[0, 2]]) b36 rfl rfl (one_at (LV.of_blk (xs := [0, 2]) b35 rfl))) (by decide) (by decide) (fun c hc => by have := few_smalls (l := [[0, 2]]) rfl c hc; omega)) ?_; rintro _ w37 ⟨rfl, k37⟩
  rw [show decide (([[0, 2]] : List (List Int)) = [[0, 2]]) = true by decide]
  (repeat (first | refine M.len_i ?_ | refine M.nilCheck_i ?_ | refine M.field_i ?_ | refine M.draw_i ?_ | refine M.cap_i ?_ | refine M.gd_tt ?_ | refine M.gd_ff ?_ | refine M.gd_ft ?_ | refine M.gd_tf ?_ | refine M.gd_u ?_ | refine M.pick_t ?_ | refine M.pick_f ?_ | refine M.not_t ?_ | refine M.not_f ?_ | refine M.cond_t ?_ | refine M.cond_f ?_ | refine M.eqNilP_tn ?_ | refine M.eqNilP_ts ?_ | refine M.eqNilP_fn ?_ | refine M.eqNilP_fs ?_ | refine M.eqNilS_tn ?_ | refine M.eqNilS_ts ?_ | refine M.eqNilS_fn ?_ | refine M.eqNilS_fs ?_ | refine M.lss_t (by omega) ?_ | refine M.lss_f (by omega) ?_ | refine M.leq_t (by omega) ?_ | refine M.leq_f (by omega) ?_ | refine M.gtr_t (by omega) ?_ | refine M.gtr_f (by omega) ?_ | refine M.geq_t (by omega) ?_ | refine M.geq_f (by omega) ?_ | refine M.eql_t (by omega) ?_ | refine M.eql_f (by omega) ?_ | refine M.neq_t (by omega) ?_ | refine M.neq_f (by omega) ?_ | refine M.add_i (by omega) (by omega) ?_ | refine M.sub_i (by omega) (by omega) ?_ | refine M.load_i (by assumption) ?_ | refine M.loadB_i (by assumption) rfl ?_ | refine M.st_i (by assumption) ?_ | refine M.stB_i (by assumption) rfl ?_ | refine M.gs_ff ?_ | refine M.gs_tt ?_ | refine M.gs_ft ?_ | refine M.gs_tf ?_ | refine M.stAll_i (by assumption) rfl ?_))
  exact ⟨rfl, (k.trans kk (fun _ _ h => h)).trans k37 (fun _ _ h => h)⟩
/-- Not too many, and not too long. -/
theorem few60 {l : List (List Int)} {most : Int} (h : fewB l most = true) (hm : most ≤ 1000) : l.length ≤ 1000 ∧ FewL l [] ∧ l.flatten.length ≤ 100000000 ∧ ∀ c ∈ l, c.length ≤ 40 := by
  obtain ⟨h1, h2⟩ := fewB_few h
  refine ⟨by omega, ?_, by omega, fun c hc => ?_⟩
  · unfold FewL
    rw [List.length_append, List.length_nil]
    omega
  · unfold fewB at h
    simp only [Bool.and_eq_true, decide_eq_true_eq, List.all_eq_true] at h
    exact h.2 c hc
theorem unitsL_few {set : List Int} {l : List (List Int)} {k : Nat} (h : ∀ c ∈ l, c.length ≤ k) : ∀ c ∈ unitsL set l, c.length ≤ k := fun c hc => by
  obtain ⟨d, hd, _, rfl⟩ := mem_unitsL.1 hc
  exact Nat.le_trans (List.length_filter_le _ _) (h d hd)
theorem subsL_few {l : List (List Int)} {k : Nat} (h : ∀ c ∈ l, c.length ≤ k) : ∀ c ∈ subsL l, c.length ≤ k := fun c hc => by
  obtain ⟨i, _, hi, _⟩ := mem_subsU.1 hc
  exact normsL_few h c (List.mem_of_getElem? hi)
theorem subsL_len (l : List (List Int)) : (subsL l).length ≤ l.length := Nat.le_trans (subsU_len _ _) (normsL_len l)
theorem dropL_few {l : List (List Int)} {p : List Int} {k : Nat} (h : ∀ c ∈ l, c.length ≤ k) : ∀ c ∈ dropL l p, c.length ≤ k := fun c hc => h c (mem_dropL.1 hc).1
theorem pureL_len (l : List (List Int)) : (pureL l).length ≤ l.flatten.length := Nat.le_trans (len_srt _) (List.length_filter_le _ _)
set_option maxHeartbeats 2000000 in
theorem simpLooks_ret {w : World} {D D' : Nat → Prop} {u v : Value} {l : List (List Int)} {lits : List Int} (hl : LL w D u l) (hp : LV vi w D' v lits) (hI : ∀ c ∈ l, ∀ x ∈ c, I64 x) :
    Ret Try.prog 8 #[u, v] w (fun v w' => v = .bool true ∧ Keep w w' No) := by
  obtain ⟨B, cq, rfl, _, _⟩ := id hp
  refine ok8 _ _ _ _ ?_
  unfold sh8
  refine M.call_i (few_ret hl 60 (by omega)) ?_; rintro _ w1 ⟨rfl, k1⟩
  cases hfb : fewB l 60 with
  | false =>
    (repeat (first | refine M.len_i ?_ | refine M.nilCheck_i ?_ | refine M.field_i ?_ | refine M.draw_i ?_ | refine M.cap_i ?_ | refine M.gd_tt ?_ | refine M.gd_ff ?_ | refine M.gd_ft ?_ | refine M.gd_tf ?_ | refine M.gd_u ?_ | refine M.pick_t ?_ | refine M.pick_f ?_ | refine M.not_t ?_ | refine M.not_f ?_ | refine M.cond_t ?_ | refine M.cond_f ?_ | refine M.eqNilP_tn ?_ | refine M.eqNilP_ts ?_ | refine M.eqNilP_fn ?_ | refine M.eqNilP_fs ?_ | refine M.eqNilS_tn ?_ | refine M.eqNilS_ts ?_ | refine M.eqNilS_fn ?_ | refine M.eqNilS_fs ?_ | refine M.lss_t (by omega) ?_ | refine M.lss_f (by omega) ?_ | refine M.leq_t (by omega) ?_ | refine M.leq_f (by omega) ?_ | refine M.gtr_t (by omega) ?_ | refine M.gtr_f (by omega) ?_ | refine M.geq_t (by omega) ?_ | refine M.geq_f (by omega) ?_ | refine M.eql_t (by omega) ?_ | refine M.eql_f (by omega) ?_ | refine M.neq_t (by omega) ?_ | refine M.neq_f (by omega) ?_ | refine M.add_i (by omega) (by omega) ?_ | refine M.sub_i (by omega) (by omega) ?_ | refine M.load_i (by assumption) ?_ | refine M.loadB_i (by assumption) rfl ?_ | refine M.st_i (by assumption) ?_ | refine M.stB_i (by assumption) rfl ?_ | refine M.gs_ff ?_ | refine M.gs_tt ?_ | refine M.gs_ft ?_ | refine M.gs_tf ?_ | refine M.stAll_i (by assumption) rfl ?_ | refine M.eql_t (by decide) ?_ | refine M.eql_f (by decide) ?_ | refine M.neq_t (by decide) ?_ | refine M.neq_f (by decide) ?_ | refine M.gtr_t (by decide) ?_ | refine M.lss_t (by decide) ?_))
    refine M.call_i (awake43_ret w1) ?_; rintro _ w2 ⟨rfl, k2⟩
    exact ⟨rfl, k1.trans k2 (fun _ _ h => h)⟩
  | true =>
    simp only [if_true]
    by_cases h60 : 60 < lits.length
    · (repeat (first | refine M.len_i ?_ | refine M.nilCheck_i ?_ | refine M.field_i ?_ | refine M.draw_i ?_ | refine M.cap_i ?_ | refine M.gd_tt ?_ | refine M.gd_ff ?_ | refine M.gd_ft ?_ | refine M.gd_tf ?_ | refine M.gd_u ?_ | refine M.pick_t ?_ | refine M.pick_f ?_ | refine M.not_t ?_ | refine M.not_f ?_ | refine M.cond_t ?_ | refine M.cond_f ?_ | refine M.eqNilP_tn ?_ | refine M.eqNilP_ts ?_ | refine M.eqNilP_fn ?_ | refine M.eqNilP_fs ?_ | refine M.eqNilS_tn ?_ | refine M.eqNilS_ts ?_ | refine M.eqNilS_fn ?_ | refine M.eqNilS_fs ?_ | refine M.lss_t (by omega) ?_ | refine M.lss_f (by omega) ?_ | refine M.leq_t (by omega) ?_ | refine M.leq_f (by omega) ?_ | refine M.gtr_t (by omega) ?_ | refine M.gtr_f (by omega) ?_ | refine M.geq_t (by omega) ?_ | refine M.geq_f (by omega) ?_ | refine M.eql_t (by omega) ?_ | refine M.eql_f (by omega) ?_ | refine M.neq_t (by omega) ?_ | refine M.neq_f (by omega) ?_ | refine M.add_i (by omega) (by omega) ?_ | refine M.sub_i (by omega) (by omega) ?_ | refine M.load_i (by assumption) ?_ | refine M.loadB_i (by assumption) rfl ?_ | refine M.st_i (by assumption) ?_ | refine M.stB_i (by assumption) rfl ?_ | refine M.gs_ff ?_ | refine M.gs_tt ?_ | refine M.gs_ft ?_ | refine M.gs_tf ?_ | refine M.stAll_i (by assumption) rfl ?_ | refine M.eql_t (by decide) ?_ | refine M.eql_f (by decide) ?_ | refine M.neq_t (by decide) ?_ | refine M.neq_f (by decide) ?_ | refine M.gtr_t (by decide) ?_ | refine M.lss_t (by decide) ?_))
      refine M.call_i (awake43_ret w1) ?_; rintro _ w2 ⟨rfl, k2⟩
      exact ⟨rfl, k1.trans k2 (fun _ _ h => h)⟩
    obtain ⟨hfl, hf, hft, hfc⟩ := few60 hfb (by omega)
    (repeat (first | refine M.len_i ?_ | refine M.nilCheck_i ?_ | refine M.field_i ?_ | refine M.draw_i ?_ | refine M.cap_i ?_ | refine M.gd_tt ?_ | refine M.gd_ff ?_ | refine M.gd_ft ?_ | refine M.gd_tf ?_ | refine M.gd_u ?_ | refine M.pick_t ?_ | refine M.pick_f ?_ | refine M.not_t ?_ | refine M.not_f ?_ | refine M.cond_t ?_ | refine M.cond_f ?_ | refine M.eqNilP_tn ?_ | refine M.eqNilP_ts ?_ | refine M.eqNilP_fn ?_ | refine M.eqNilP_fs ?_ | refine M.eqNilS_tn ?_ | refine M.eqNilS_ts ?_ | refine M.eqNilS_fn ?_ | refine M.eqNilS_fs ?_ | refine M.lss_t (by omega) ?_ | refine M.lss_f (by omega) ?_ | refine M.leq_t (by omega) ?_ | refine M.leq_f (by omega) ?_ | refine M.gtr_t (by omega) ?_ | refine M.gtr_f (by omega) ?_ | refine M.geq_t (by omega) ?_ | refine M.geq_f (by omega) ?_ | refine M.eql_t (by omega) ?_ | refine M.eql_f (by omega) ?_ | refine M.neq_t (by omega) ?_ | refine M.neq_f (by omega) ?_ | refine M.add_i (by omega) (by omega) ?_ | refine M.sub_i (by omega) (by omega) ?_ | refine M.load_i (by assumption) ?_ | refine M.loadB_i (by assumption) rfl ?_ | refine M.st_i (by assumption) ?_ | refine M.stB_i (by assumption) rfl ?_ | refine M.gs_ff ?_ | refine M.gs_tt ?_ | refine M.gs_ft ?_ | refine M.gs_tf ?_ | refine M.stAll_i (by assumption) rfl ?_ | refine M.eql_t (by decide) ?_ | refine M.eql_f (by decide) ?_ | refine M.neq_t (by decide) ?_ | refine M.neq_f (by decide) ?_ | refine M.gtr_t (by decide) ?_ | refine M.lss_t (by decide) ?_))
    refine M.call_i (units_ret (hl.keep k1 (fun _ _ _ h => h)) hf (by omega) hI) ?_; rintro _ w2 ⟨a, b, set, kk, rfl, hR, ha, hb, k2⟩
    refine M.extract_i rfl ?_
    refine M.extract_i rfl ?_
    refine M.extract_i rfl ?_
    have k := k1.trans k2 (fun _ _ h => h)
    refine M.call_i (runits_ret (hl.keep k (fun _ _ _ h => h)) hf (by omega) hI) ?_; rintro _ w3 ⟨a', b', set', kk', rfl, hR', ha', hb', k3⟩
    obtain ⟨rfl, rfl⟩ := hR'.uniq hR
    refine M.extract_i rfl ?_
    refine M.extract_i rfl ?_
    refine M.extract_i rfl ?_
    have k := k.trans k3 (fun _ _ h => h)
    have hslen := hR.len hf
    have hul : (if kk' = true then unitsL set' l else []).length ≤ 1000000 := by
      split
      · have := unitsL_len set' l; omega
      · simp
    have huf : ∀ c ∈ (if kk' = true then unitsL set' l else []), Few c.length := fun c hc => by
      split at hc
      · have := unitsL_few hfc c hc; omega
      · simp at hc
    obtain ⟨B1, cb1, rfl, _, _⟩ := id hb
    obtain ⟨B2, cb2, rfl, _, _⟩ := id hb'
    refine M.call_i (all_ret (ha.keep k3 (fun _ _ _ h => h)) ha' hul hul huf) ?_; rintro _ w4 ⟨rfl, k4⟩
    rw [all_self]
    have k34 := k3.trans k4 (fun _ _ h => h)
    have k := k.trans k4 (fun _ _ h => h)
    (repeat (first | refine M.len_i ?_ | refine M.nilCheck_i ?_ | refine M.field_i ?_ | refine M.draw_i ?_ | refine M.cap_i ?_ | refine M.gd_tt ?_ | refine M.gd_ff ?_ | refine M.gd_ft ?_ | refine M.gd_tf ?_ | refine M.gd_u ?_ | refine M.pick_t ?_ | refine M.pick_f ?_ | refine M.not_t ?_ | refine M.not_f ?_ | refine M.cond_t ?_ | refine M.cond_f ?_ | refine M.eqNilP_tn ?_ | refine M.eqNilP_ts ?_ | refine M.eqNilP_fn ?_ | refine M.eqNilP_fs ?_ | refine M.eqNilS_tn ?_ | refine M.eqNilS_ts ?_ | refine M.eqNilS_fn ?_ | refine M.eqNilS_fs ?_ | refine M.lss_t (by omega) ?_ | refine M.lss_f (by omega) ?_ | refine M.leq_t (by omega) ?_ | refine M.leq_f (by omega) ?_ | refine M.gtr_t (by omega) ?_ | refine M.gtr_f (by omega) ?_ | refine M.geq_t (by omega) ?_ | refine M.geq_f (by omega) ?_ | refine M.eql_t (by omega) ?_ | refine M.eql_f (by omega) ?_ | refine M.neq_t (by omega) ?_ | refine M.neq_f (by omega) ?_ | refine M.add_i (by omega) (by omega) ?_ | refine M.sub_i (by omega) (by omega) ?_ | refine M.load_i (by assumption) ?_ | refine M.loadB_i (by assumption) rfl ?_ | refine M.st_i (by assumption) ?_ | refine M.stB_i (by assumption) rfl ?_ | refine M.gs_ff ?_ | refine M.gs_tt ?_ | refine M.gs_ft ?_ | refine M.gs_tf ?_ | refine M.stAll_i (by assumption) rfl ?_))
    refine M.call_i (same_ret (hb.keep k34 (fun _ _ _ h => h)) (hb'.keep k4 (fun _ _ _ h => h)) (by omega)) ?_; rintro _ w5 ⟨rfl, k5⟩
    rw [show decide (set' = set') = true from decide_eq_true rfl]
    have k := k.trans k5 (fun _ _ h => h)
    (repeat (first | refine M.len_i ?_ | refine M.nilCheck_i ?_ | refine M.field_i ?_ | refine M.draw_i ?_ | refine M.cap_i ?_ | refine M.gd_tt ?_ | refine M.gd_ff ?_ | refine M.gd_ft ?_ | refine M.gd_tf ?_ | refine M.gd_u ?_ | refine M.pick_t ?_ | refine M.pick_f ?_ | refine M.not_t ?_ | refine M.not_f ?_ | refine M.cond_t ?_ | refine M.cond_f ?_ | refine M.eqNilP_tn ?_ | refine M.eqNilP_ts ?_ | refine M.eqNilP_fn ?_ | refine M.eqNilP_fs ?_ | refine M.eqNilS_tn ?_ | refine M.eqNilS_ts ?_ | refine M.eqNilS_fn ?_ | refine M.eqNilS_fs ?_ | refine M.lss_t (by omega) ?_ | refine M.lss_f (by omega) ?_ | refine M.leq_t (by omega) ?_ | refine M.leq_f (by omega) ?_ | refine M.gtr_t (by omega) ?_ | refine M.gtr_f (by omega) ?_ | refine M.geq_t (by omega) ?_ | refine M.geq_f (by omega) ?_ | refine M.eql_t (by omega) ?_ | refine M.eql_f (by omega) ?_ | refine M.neq_t (by omega) ?_ | refine M.neq_f (by omega) ?_ | refine M.add_i (by omega) (by omega) ?_ | refine M.sub_i (by omega) (by omega) ?_ | refine M.load_i (by assumption) ?_ | refine M.loadB_i (by assumption) rfl ?_ | refine M.st_i (by assumption) ?_ | refine M.stB_i (by assumption) rfl ?_ | refine M.gs_ff ?_ | refine M.gs_tt ?_ | refine M.gs_ft ?_ | refine M.gs_tf ?_ | refine M.stAll_i (by assumption) rfl ?_))
    refine M.eqB_i ?_
    rw [show (xor false (kk' == kk')) = true by simp]
    (repeat (first | refine M.len_i ?_ | refine M.nilCheck_i ?_ | refine M.field_i ?_ | refine M.draw_i ?_ | refine M.cap_i ?_ | refine M.gd_tt ?_ | refine M.gd_ff ?_ | refine M.gd_ft ?_ | refine M.gd_tf ?_ | refine M.gd_u ?_ | refine M.pick_t ?_ | refine M.pick_f ?_ | refine M.not_t ?_ | refine M.not_f ?_ | refine M.cond_t ?_ | refine M.cond_f ?_ | refine M.eqNilP_tn ?_ | refine M.eqNilP_ts ?_ | refine M.eqNilP_fn ?_ | refine M.eqNilP_fs ?_ | refine M.eqNilS_tn ?_ | refine M.eqNilS_ts ?_ | refine M.eqNilS_fn ?_ | refine M.eqNilS_fs ?_ | refine M.lss_t (by omega) ?_ | refine M.lss_f (by omega) ?_ | refine M.leq_t (by omega) ?_ | refine M.leq_f (by omega) ?_ | refine M.gtr_t (by omega) ?_ | refine M.gtr_f (by omega) ?_ | refine M.geq_t (by omega) ?_ | refine M.geq_f (by omega) ?_ | refine M.eql_t (by omega) ?_ | refine M.eql_f (by omega) ?_ | refine M.neq_t (by omega) ?_ | refine M.neq_f (by omega) ?_ | refine M.add_i (by omega) (by omega) ?_ | refine M.sub_i (by omega) (by omega) ?_ | refine M.load_i (by assumption) ?_ | refine M.loadB_i (by assumption) rfl ?_ | refine M.st_i (by assumption) ?_ | refine M.stB_i (by assumption) rfl ?_ | refine M.gs_ff ?_ | refine M.gs_tt ?_ | refine M.gs_ft ?_ | refine M.gs_tf ?_ | refine M.stAll_i (by assumption) rfl ?_))
    refine M.call_i (subsume_ret (hl.keep k (fun _ _ _ h => h)) (by omega) (fun c hc => by have := hfc c hc; omega) hI) ?_; rintro v6 w6 ⟨h6, k6⟩
    have k := k.trans k6 (fun _ _ h => h)
    (repeat (first | refine M.len_i ?_ | refine M.nilCheck_i ?_ | refine M.field_i ?_ | refine M.draw_i ?_ | refine M.cap_i ?_ | refine M.gd_tt ?_ | refine M.gd_ff ?_ | refine M.gd_ft ?_ | refine M.gd_tf ?_ | refine M.gd_u ?_ | refine M.pick_t ?_ | refine M.pick_f ?_ | refine M.not_t ?_ | refine M.not_f ?_ | refine M.cond_t ?_ | refine M.cond_f ?_ | refine M.eqNilP_tn ?_ | refine M.eqNilP_ts ?_ | refine M.eqNilP_fn ?_ | refine M.eqNilP_fs ?_ | refine M.eqNilS_tn ?_ | refine M.eqNilS_ts ?_ | refine M.eqNilS_fn ?_ | refine M.eqNilS_fs ?_ | refine M.lss_t (by omega) ?_ | refine M.lss_f (by omega) ?_ | refine M.leq_t (by omega) ?_ | refine M.leq_f (by omega) ?_ | refine M.gtr_t (by omega) ?_ | refine M.gtr_f (by omega) ?_ | refine M.geq_t (by omega) ?_ | refine M.geq_f (by omega) ?_ | refine M.eql_t (by omega) ?_ | refine M.eql_f (by omega) ?_ | refine M.neq_t (by omega) ?_ | refine M.neq_f (by omega) ?_ | refine M.add_i (by omega) (by omega) ?_ | refine M.sub_i (by omega) (by omega) ?_ | refine M.load_i (by assumption) ?_ | refine M.loadB_i (by assumption) rfl ?_ | refine M.st_i (by assumption) ?_ | refine M.stB_i (by assumption) rfl ?_ | refine M.gs_ff ?_ | refine M.gs_tt ?_ | refine M.gs_ft ?_ | refine M.gs_tf ?_ | refine M.stAll_i (by assumption) rfl ?_))
    refine M.call_i (rsubsume_ret (hl.keep k (fun _ _ _ h => h)) (by omega) (fun c hc => by have := hfc c hc; omega) hI) ?_; rintro v7 w7 ⟨h7, k7⟩
    have k := k.trans k7 (fun _ _ h => h)
    have hsl := subsL_len l
    (repeat (first | refine M.len_i ?_ | refine M.nilCheck_i ?_ | refine M.field_i ?_ | refine M.draw_i ?_ | refine M.cap_i ?_ | refine M.gd_tt ?_ | refine M.gd_ff ?_ | refine M.gd_ft ?_ | refine M.gd_tf ?_ | refine M.gd_u ?_ | refine M.pick_t ?_ | refine M.pick_f ?_ | refine M.not_t ?_ | refine M.not_f ?_ | refine M.cond_t ?_ | refine M.cond_f ?_ | refine M.eqNilP_tn ?_ | refine M.eqNilP_ts ?_ | refine M.eqNilP_fn ?_ | refine M.eqNilP_fs ?_ | refine M.eqNilS_tn ?_ | refine M.eqNilS_ts ?_ | refine M.eqNilS_fn ?_ | refine M.eqNilS_fs ?_ | refine M.lss_t (by omega) ?_ | refine M.lss_f (by omega) ?_ | refine M.leq_t (by omega) ?_ | refine M.leq_f (by omega) ?_ | refine M.gtr_t (by omega) ?_ | refine M.gtr_f (by omega) ?_ | refine M.geq_t (by omega) ?_ | refine M.geq_f (by omega) ?_ | refine M.eql_t (by omega) ?_ | refine M.eql_f (by omega) ?_ | refine M.neq_t (by omega) ?_ | refine M.neq_f (by omega) ?_ | refine M.add_i (by omega) (by omega) ?_ | refine M.sub_i (by omega) (by omega) ?_ | refine M.load_i (by assumption) ?_ | refine M.loadB_i (by assumption) rfl ?_ | refine M.st_i (by assumption) ?_ | refine M.stB_i (by assumption) rfl ?_ | refine M.gs_ff ?_ | refine M.gs_tt ?_ | refine M.gs_ft ?_ | refine M.gs_tf ?_ | refine M.stAll_i (by assumption) rfl ?_))
    refine M.call_i (all_ret (h6.keep k7 (fun _ _ _ h => h)) h7 (by omega) (by omega) (fun c hc => by have := subsL_few hfc c hc; omega)) ?_; rintro _ w8 ⟨rfl, k8⟩
    rw [all_self]
    have k := k.trans k8 (fun _ _ h => h)
    (repeat (first | refine M.len_i ?_ | refine M.nilCheck_i ?_ | refine M.field_i ?_ | refine M.draw_i ?_ | refine M.cap_i ?_ | refine M.gd_tt ?_ | refine M.gd_ff ?_ | refine M.gd_ft ?_ | refine M.gd_tf ?_ | refine M.gd_u ?_ | refine M.pick_t ?_ | refine M.pick_f ?_ | refine M.not_t ?_ | refine M.not_f ?_ | refine M.cond_t ?_ | refine M.cond_f ?_ | refine M.eqNilP_tn ?_ | refine M.eqNilP_ts ?_ | refine M.eqNilP_fn ?_ | refine M.eqNilP_fs ?_ | refine M.eqNilS_tn ?_ | refine M.eqNilS_ts ?_ | refine M.eqNilS_fn ?_ | refine M.eqNilS_fs ?_ | refine M.lss_t (by omega) ?_ | refine M.lss_f (by omega) ?_ | refine M.leq_t (by omega) ?_ | refine M.leq_f (by omega) ?_ | refine M.gtr_t (by omega) ?_ | refine M.gtr_f (by omega) ?_ | refine M.geq_t (by omega) ?_ | refine M.geq_f (by omega) ?_ | refine M.eql_t (by omega) ?_ | refine M.eql_f (by omega) ?_ | refine M.neq_t (by omega) ?_ | refine M.neq_f (by omega) ?_ | refine M.add_i (by omega) (by omega) ?_ | refine M.sub_i (by omega) (by omega) ?_ | refine M.load_i (by assumption) ?_ | refine M.loadB_i (by assumption) rfl ?_ | refine M.st_i (by assumption) ?_ | refine M.stB_i (by assumption) rfl ?_ | refine M.gs_ff ?_ | refine M.gs_tt ?_ | refine M.gs_ft ?_ | refine M.gs_tf ?_ | refine M.stAll_i (by assumption) rfl ?_))
    refine M.call_i (pure_ret (hl.keep k (fun _ _ _ h => h)) (by omega) hft hI) ?_; rintro v9 w9 ⟨h9, k9⟩
    have k := k.trans k9 (fun _ _ h => h)
    (repeat (first | refine M.len_i ?_ | refine M.nilCheck_i ?_ | refine M.field_i ?_ | refine M.draw_i ?_ | refine M.cap_i ?_ | refine M.gd_tt ?_ | refine M.gd_ff ?_ | refine M.gd_ft ?_ | refine M.gd_tf ?_ | refine M.gd_u ?_ | refine M.pick_t ?_ | refine M.pick_f ?_ | refine M.not_t ?_ | refine M.not_f ?_ | refine M.cond_t ?_ | refine M.cond_f ?_ | refine M.eqNilP_tn ?_ | refine M.eqNilP_ts ?_ | refine M.eqNilP_fn ?_ | refine M.eqNilP_fs ?_ | refine M.eqNilS_tn ?_ | refine M.eqNilS_ts ?_ | refine M.eqNilS_fn ?_ | refine M.eqNilS_fs ?_ | refine M.lss_t (by omega) ?_ | refine M.lss_f (by omega) ?_ | refine M.leq_t (by omega) ?_ | refine M.leq_f (by omega) ?_ | refine M.gtr_t (by omega) ?_ | refine M.gtr_f (by omega) ?_ | refine M.geq_t (by omega) ?_ | refine M.geq_f (by omega) ?_ | refine M.eql_t (by omega) ?_ | refine M.eql_f (by omega) ?_ | refine M.neq_t (by omega) ?_ | refine M.neq_f (by omega) ?_ | refine M.add_i (by omega) (by omega) ?_ | refine M.sub_i (by omega) (by omega) ?_ | refine M.load_i (by assumption) ?_ | refine M.loadB_i (by assumption) rfl ?_ | refine M.st_i (by assumption) ?_ | refine M.stB_i (by assumption) rfl ?_ | refine M.gs_ff ?_ | refine M.gs_tt ?_ | refine M.gs_ft ?_ | refine M.gs_tf ?_ | refine M.stAll_i (by assumption) rfl ?_))
    refine M.call_i (rpure_ret (hl.keep k (fun _ _ _ h => h)) (by omega) hft hI) ?_; rintro v10 w10 ⟨h10, k10⟩
    have k := k.trans k10 (fun _ _ h => h)
    have hpl := pureL_len l
    (repeat (first | refine M.len_i ?_ | refine M.nilCheck_i ?_ | refine M.field_i ?_ | refine M.draw_i ?_ | refine M.cap_i ?_ | refine M.gd_tt ?_ | refine M.gd_ff ?_ | refine M.gd_ft ?_ | refine M.gd_tf ?_ | refine M.gd_u ?_ | refine M.pick_t ?_ | refine M.pick_f ?_ | refine M.not_t ?_ | refine M.not_f ?_ | refine M.cond_t ?_ | refine M.cond_f ?_ | refine M.eqNilP_tn ?_ | refine M.eqNilP_ts ?_ | refine M.eqNilP_fn ?_ | refine M.eqNilP_fs ?_ | refine M.eqNilS_tn ?_ | refine M.eqNilS_ts ?_ | refine M.eqNilS_fn ?_ | refine M.eqNilS_fs ?_ | refine M.lss_t (by omega) ?_ | refine M.lss_f (by omega) ?_ | refine M.leq_t (by omega) ?_ | refine M.leq_f (by omega) ?_ | refine M.gtr_t (by omega) ?_ | refine M.gtr_f (by omega) ?_ | refine M.geq_t (by omega) ?_ | refine M.geq_f (by omega) ?_ | refine M.eql_t (by omega) ?_ | refine M.eql_f (by omega) ?_ | refine M.neq_t (by omega) ?_ | refine M.neq_f (by omega) ?_ | refine M.add_i (by omega) (by omega) ?_ | refine M.sub_i (by omega) (by omega) ?_ | refine M.load_i (by assumption) ?_ | refine M.loadB_i (by assumption) rfl ?_ | refine M.st_i (by assumption) ?_ | refine M.stB_i (by assumption) rfl ?_ | refine M.gs_ff ?_ | refine M.gs_tt ?_ | refine M.gs_ft ?_ | refine M.gs_tf ?_ | refine M.stAll_i (by assumption) rfl ?_))
    refine M.call_i (same_ret (GI.lv (h9.keep k10 (fun _ _ _ h => h))) (GI.lv h10) (by omega)) ?_; rintro _ w11 ⟨rfl, k11⟩
    rw [show decide (pureL l = pureL l) = true from decide_eq_true rfl]
    have k := k.trans k11 (fun _ _ h => h)
    (repeat (first | refine M.len_i ?_ | refine M.nilCheck_i ?_ | refine M.field_i ?_ | refine M.draw_i ?_ | refine M.cap_i ?_ | refine M.gd_tt ?_ | refine M.gd_ff ?_ | refine M.gd_ft ?_ | refine M.gd_tf ?_ | refine M.gd_u ?_ | refine M.pick_t ?_ | refine M.pick_f ?_ | refine M.not_t ?_ | refine M.not_f ?_ | refine M.cond_t ?_ | refine M.cond_f ?_ | refine M.eqNilP_tn ?_ | refine M.eqNilP_ts ?_ | refine M.eqNilP_fn ?_ | refine M.eqNilP_fs ?_ | refine M.eqNilS_tn ?_ | refine M.eqNilS_ts ?_ | refine M.eqNilS_fn ?_ | refine M.eqNilS_fs ?_ | refine M.lss_t (by omega) ?_ | refine M.lss_f (by omega) ?_ | refine M.leq_t (by omega) ?_ | refine M.leq_f (by omega) ?_ | refine M.gtr_t (by omega) ?_ | refine M.gtr_f (by omega) ?_ | refine M.geq_t (by omega) ?_ | refine M.geq_f (by omega) ?_ | refine M.eql_t (by omega) ?_ | refine M.eql_f (by omega) ?_ | refine M.neq_t (by omega) ?_ | refine M.neq_f (by omega) ?_ | refine M.add_i (by omega) (by omega) ?_ | refine M.sub_i (by omega) (by omega) ?_ | refine M.load_i (by assumption) ?_ | refine M.loadB_i (by assumption) rfl ?_ | refine M.st_i (by assumption) ?_ | refine M.stB_i (by assumption) rfl ?_ | refine M.gs_ff ?_ | refine M.gs_tt ?_ | refine M.gs_ft ?_ | refine M.gs_tf ?_ | refine M.stAll_i (by assumption) rfl ?_))
    refine M.call_i (drop_ret (hl.keep k (fun _ _ _ h => h)) (hp.keep k (fun _ _ _ h => h)) (by omega) (fun c hc => by have := hfc c hc; omega) (by omega)) ?_; rintro v12 w12 ⟨h12, k12⟩
    have k := k.trans k12 (fun _ _ h => h)
    (repeat (first | refine M.len_i ?_ | refine M.nilCheck_i ?_ | refine M.field_i ?_ | refine M.draw_i ?_ | refine M.cap_i ?_ | refine M.gd_tt ?_ | refine M.gd_ff ?_ | refine M.gd_ft ?_ | refine M.gd_tf ?_ | refine M.gd_u ?_ | refine M.pick_t ?_ | refine M.pick_f ?_ | refine M.not_t ?_ | refine M.not_f ?_ | refine M.cond_t ?_ | refine M.cond_f ?_ | refine M.eqNilP_tn ?_ | refine M.eqNilP_ts ?_ | refine M.eqNilP_fn ?_ | refine M.eqNilP_fs ?_ | refine M.eqNilS_tn ?_ | refine M.eqNilS_ts ?_ | refine M.eqNilS_fn ?_ | refine M.eqNilS_fs ?_ | refine M.lss_t (by omega) ?_ | refine M.lss_f (by omega) ?_ | refine M.leq_t (by omega) ?_ | refine M.leq_f (by omega) ?_ | refine M.gtr_t (by omega) ?_ | refine M.gtr_f (by omega) ?_ | refine M.geq_t (by omega) ?_ | refine M.geq_f (by omega) ?_ | refine M.eql_t (by omega) ?_ | refine M.eql_f (by omega) ?_ | refine M.neq_t (by omega) ?_ | refine M.neq_f (by omega) ?_ | refine M.add_i (by omega) (by omega) ?_ | refine M.sub_i (by omega) (by omega) ?_ | refine M.load_i (by assumption) ?_ | refine M.loadB_i (by assumption) rfl ?_ | refine M.st_i (by assumption) ?_ | refine M.stB_i (by assumption) rfl ?_ | refine M.gs_ff ?_ | refine M.gs_tt ?_ | refine M.gs_ft ?_ | refine M.gs_tf ?_ | refine M.stAll_i (by assumption) rfl ?_))
    refine M.call_i (rdrop_ret (hl.keep k (fun _ _ _ h => h)) (hp.keep k (fun _ _ _ h => h)) (by omega) (fun c hc => by have := hfc c hc; omega) (by omega)) ?_; rintro v13 w13 ⟨h13, k13⟩
    have k := k.trans k13 (fun _ _ h => h)
    have hdl := dropL_len l lits
    (repeat (first | refine M.len_i ?_ | refine M.nilCheck_i ?_ | refine M.field_i ?_ | refine M.draw_i ?_ | refine M.cap_i ?_ | refine M.gd_tt ?_ | refine M.gd_ff ?_ | refine M.gd_ft ?_ | refine M.gd_tf ?_ | refine M.gd_u ?_ | refine M.pick_t ?_ | refine M.pick_f ?_ | refine M.not_t ?_ | refine M.not_f ?_ | refine M.cond_t ?_ | refine M.cond_f ?_ | refine M.eqNilP_tn ?_ | refine M.eqNilP_ts ?_ | refine M.eqNilP_fn ?_ | refine M.eqNilP_fs ?_ | refine M.eqNilS_tn ?_ | refine M.eqNilS_ts ?_ | refine M.eqNilS_fn ?_ | refine M.eqNilS_fs ?_ | refine M.lss_t (by omega) ?_ | refine M.lss_f (by omega) ?_ | refine M.leq_t (by omega) ?_ | refine M.leq_f (by omega) ?_ | refine M.gtr_t (by omega) ?_ | refine M.gtr_f (by omega) ?_ | refine M.geq_t (by omega) ?_ | refine M.geq_f (by omega) ?_ | refine M.eql_t (by omega) ?_ | refine M.eql_f (by omega) ?_ | refine M.neq_t (by omega) ?_ | refine M.neq_f (by omega) ?_ | refine M.add_i (by omega) (by omega) ?_ | refine M.sub_i (by omega) (by omega) ?_ | refine M.load_i (by assumption) ?_ | refine M.loadB_i (by assumption) rfl ?_ | refine M.st_i (by assumption) ?_ | refine M.stB_i (by assumption) rfl ?_ | refine M.gs_ff ?_ | refine M.gs_tt ?_ | refine M.gs_ft ?_ | refine M.gs_tf ?_ | refine M.stAll_i (by assumption) rfl ?_))
    refine M.call_i (all_ret (h12.keep k13 (fun _ _ _ h => h)) h13 (by omega) (by omega) (fun c hc => by have := dropL_few (p := lits) hfc c hc; omega)) ?_; rintro _ w14 ⟨rfl, k14⟩
    rw [all_self]
    have k := k.trans k14 (fun _ _ h => h)
    (repeat (first | refine M.len_i ?_ | refine M.nilCheck_i ?_ | refine M.field_i ?_ | refine M.draw_i ?_ | refine M.cap_i ?_ | refine M.gd_tt ?_ | refine M.gd_ff ?_ | refine M.gd_ft ?_ | refine M.gd_tf ?_ | refine M.gd_u ?_ | refine M.pick_t ?_ | refine M.pick_f ?_ | refine M.not_t ?_ | refine M.not_f ?_ | refine M.cond_t ?_ | refine M.cond_f ?_ | refine M.eqNilP_tn ?_ | refine M.eqNilP_ts ?_ | refine M.eqNilP_fn ?_ | refine M.eqNilP_fs ?_ | refine M.eqNilS_tn ?_ | refine M.eqNilS_ts ?_ | refine M.eqNilS_fn ?_ | refine M.eqNilS_fs ?_ | refine M.lss_t (by omega) ?_ | refine M.lss_f (by omega) ?_ | refine M.leq_t (by omega) ?_ | refine M.leq_f (by omega) ?_ | refine M.gtr_t (by omega) ?_ | refine M.gtr_f (by omega) ?_ | refine M.geq_t (by omega) ?_ | refine M.geq_f (by omega) ?_ | refine M.eql_t (by omega) ?_ | refine M.eql_f (by omega) ?_ | refine M.neq_t (by omega) ?_ | refine M.neq_f (by omega) ?_ | refine M.add_i (by omega) (by omega) ?_ | refine M.sub_i (by omega) (by omega) ?_ | refine M.load_i (by assumption) ?_ | refine M.loadB_i (by assumption) rfl ?_ | refine M.st_i (by assumption) ?_ | refine M.stB_i (by assumption) rfl ?_ | refine M.gs_ff ?_ | refine M.gs_tt ?_ | refine M.gs_ft ?_ | refine M.gs_tf ?_ | refine M.stAll_i (by assumption) rfl ?_))
    refine M.call_i (awake43_ret w14) ?_; rintro _ w15 ⟨rfl, k15⟩
    (repeat (first | refine M.len_i ?_ | refine M.nilCheck_i ?_ | refine M.field_i ?_ | refine M.draw_i ?_ | refine M.cap_i ?_ | refine M.gd_tt ?_ | refine M.gd_ff ?_ | refine M.gd_ft ?_ | refine M.gd_tf ?_ | refine M.gd_u ?_ | refine M.pick_t ?_ | refine M.pick_f ?_ | refine M.not_t ?_ | refine M.not_f ?_ | refine M.cond_t ?_ | refine M.cond_f ?_ | refine M.eqNilP_tn ?_ | refine M.eqNilP_ts ?_ | refine M.eqNilP_fn ?_ | refine M.eqNilP_fs ?_ | refine M.eqNilS_tn ?_ | refine M.eqNilS_ts ?_ | refine M.eqNilS_fn ?_ | refine M.eqNilS_fs ?_ | refine M.lss_t (by omega) ?_ | refine M.lss_f (by omega) ?_ | refine M.leq_t (by omega) ?_ | refine M.leq_f (by omega) ?_ | refine M.gtr_t (by omega) ?_ | refine M.gtr_f (by omega) ?_ | refine M.geq_t (by omega) ?_ | refine M.geq_f (by omega) ?_ | refine M.eql_t (by omega) ?_ | refine M.eql_f (by omega) ?_ | refine M.neq_t (by omega) ?_ | refine M.neq_f (by omega) ?_ | refine M.add_i (by omega) (by omega) ?_ | refine M.sub_i (by omega) (by omega) ?_ | refine M.load_i (by assumption) ?_ | refine M.loadB_i (by assumption) rfl ?_ | refine M.st_i (by assumption) ?_ | refine M.stB_i (by assumption) rfl ?_ | refine M.gs_ff ?_ | refine M.gs_tt ?_ | refine M.gs_ft ?_ | refine M.gs_tf ?_ | refine M.stAll_i (by assumption) rfl ?_))
    exact ⟨rfl, k.trans k15 (fun _ _ h => h)⟩
end Go.Proofs.Ytfkbacoiocniaaa
