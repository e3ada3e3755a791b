import Derived.Test.YtfkbacoiocniaaaSimp43d
namespace Go.Proofs.Ytfkbacoiocniaaa
open Go.Mw Go.Shelf
set_option linter.unusedVariables false
set_option linter.unusedSimpArgs false
set_option maxRecDepth 100000
attribute [local irreducible] M.val M.unit M.next M.pick M.new M.nilCheck M.load1 M.loadA M.store M.fieldAddr M.indexSl M.indexArr M.slice M.makeSlice M.buildSlice M.len M.lenS M.cap M.append M.extract M.conv M.not M.neg M.bin M.shift M.eqB M.eqNil M.call M.callv M.gd M.share M.cond M.loop M.draw pureW readW Ret
/-! breakwater/simp.Pure: function 34 -/
def sh34 (x0 : Value) (R : Kt) (w : World) : Prop :=
  M.val Try.prog (Instr.makeMap 87 none) (fun t10 w =>
  M.len x0 (fun t12 w =>
  M.loop [(Value.int IntKind.i64 0)] (fun s1 K1 w => ∀ _ : List Value,
  M.bin .lss (s1.getD 0 undef) t12 (fun t14 w =>
  M.cond t14
  (M.indexSl 1 x0 (s1.getD 0 undef) (fun t15 w =>
  M.load1 t15 (fun t16 w =>
  M.len t16 (fun t18 w =>
  M.loop [(Value.int IntKind.i64 0)] (fun s2 K2 w => ∀ _ : List Value,
  M.bin .lss (s2.getD 0 undef) t18 (fun t20 w =>
  M.cond t20
  (M.indexSl 1 t16 (s2.getD 0 undef) (fun t21 w =>
  M.load1 t21 (fun t22 w =>
  M.unit Try.prog (Instr.mapUpdate 87 t10 t22 (Value.bool true)) (fun _ w =>
  M.bin .add (s2.getD 0 undef) (Value.int IntKind.i64 1) (fun t25 w =>
  K2 [t25] w) w) w) w) w)
  (M.bin .add (s1.getD 0 undef) (Value.int IntKind.i64 1) (fun t26 w =>
  K1 [t26] w) w)) w) w) w) w) w)
  (M.val Try.prog (Instr.range 87 t10) (fun t28 w =>
  M.loop [(Value.slice none 0 0)] (fun s3 K3 w => ∀ _ : List Value,
  M.val Try.prog (Instr.next t28 false 0) (fun t29 w =>
  M.extract 0 t29 (fun t30 w =>
  M.cond t30
  (M.share (fun K4 w =>
  M.val Try.prog (Instr.entry t28) (fun t31 w =>
  M.extract 0 t31 (fun t32 w =>
  M.bin .geq t32 (Value.int IntKind.i64 0) (fun t34 w =>
  M.gd t34 true (fun k w => k t10 w) (fun t36 w =>
  M.gd t34 true (fun k w => k t32 w) (fun t37 w =>
  M.gd t34 true (fun k w => M.call Try.prog 50 #[t37] k w) (fun t38 w =>
  M.gd t34 true (fun k w => readW Try.prog (Instr.lookup 87 t36 t38 false) k w) (fun t39 w =>
  M.gd t34 true (fun k w => M.not t39 k w) (fun t40 w =>
  M.pick t34 t40 (Value.bool false) (fun t41 w =>
  M.cond t41
  (M.buildSlice 3 1 #[.int .i64 0] 1 [(0, t32)] (fun t44 w =>
  M.append 3 1 8 #[.int .i64 0] (s3.getD 0 undef) t44 (fun t45 w =>
  K4 [t45] w) w) w)
  (K4 [(s3.getD 0 undef)] w)) w) w) w) w) w) w) w) w) w) (fun s4 w => ∀ _ : List Value,
  K3 [(s4.getD 0 undef)] w) w)
  (M.call Try.prog 48 #[(s3.getD 0 undef)] (fun t47 w =>
  R (s3.getD 0 undef) w) w)) w) w) w) w)) w) w) w) w
theorem ok34 (x0 : Value) (R : Kt) (w : World) (h : sh34 x0 R w) : Ret Try.prog 34 #[x0] w R :=
  ret_mk <| calls_of_comp mixed (c := Try.f34.body.getD .skip) (args := [x0]) (rs := [(ResultVar.tmp 2)]) (Ann.seq Ann.text (Ann.seq Ann.text (Ann.seq (Ann.seq Ann.text (Ann.block (Ann.loop [13] [5, 7, 14, 15, 16, 17, 18, 19, 20, 21, 22, 23, 24, 25, 26] (Ann.seq Ann.text (Ann.seq (Ann.cond Ann.leaf Ann.leaf) (Ann.seq (Ann.block (Ann.seq Ann.text (Ann.seq Ann.text (Ann.block (Ann.loop [19] [7, 20, 21, 22, 23, 24, 25] (Ann.seq Ann.text (Ann.seq (Ann.cond Ann.leaf Ann.leaf) (Ann.seq (Ann.block (Ann.seq Ann.text Ann.text)) Ann.text)))))))) Ann.text)))))) (Ann.seq Ann.text (Ann.seq (Ann.seq Ann.text (Ann.block (Ann.loop [8] [9, 29, 30, 31, 32, 33, 34, 35, 36, 37, 38, 39, 40, 41, 42, 43, 44, 45] (Ann.seq Ann.text (Ann.seq (Ann.cond Ann.leaf Ann.leaf) (Ann.jblock [8] [9, 31, 32, 33, 34, 35, 36, 37, 38, 39, 40, 41, 42, 43, 44, 45] (Ann.seq Ann.text (Ann.seq Ann.text (Ann.cond Ann.text Ann.leaf))))))))) (Ann.seq Ann.text (Ann.seq Ann.text Ann.leaf)))))))
    Try.func34 (by kernel_rfl) (by kernel_rfl)
    (Eq.mp (by kernel_rfl) h)
/-! breakwater/breakwaterref43.occurs: function 69 -/
def sh69 (x0 x1 : Value) (R : Kt) (w : World) : Prop :=
  M.loop [(Value.int IntKind.i64 0)] (fun s1 K1 w => ∀ _ : List Value,
  M.len x0 (fun t8 w =>
  M.bin .lss (s1.getD 0 undef) t8 (fun t9 w =>
  M.cond t9
  (M.indexSl 1 x0 (s1.getD 0 undef) (fun t14 w =>
  M.load1 t14 (fun t15 w =>
  M.call Try.prog 20 #[t15, x1] (fun t17 w =>
  M.cond t17
  (R (Value.bool true) w)
  (M.bin .add (s1.getD 0 undef) (Value.int IntKind.i64 1) (fun t11 w =>
  K1 [t11] w) w)) w) w) w)
  (R (Value.bool false) w)) w) w) w
theorem ok69 (x0 x1 : Value) (R : Kt) (w : World) (h : sh69 x0 x1 R w) : Ret Try.prog 69 #[x0, x1] w R :=
  ret_mk <| calls_of_comp mixed (c := Try.f69.body.getD .skip) (args := [x0, x1]) (rs := [(ResultVar.tmp 4)]) (Ann.seq Ann.text (Ann.seq (Ann.seq Ann.text (Ann.block (Ann.loop [5] [4, 6, 7, 8, 9, 10, 11, 12, 13, 14, 15, 16, 17] (Ann.seq (Ann.seq Ann.text (Ann.cond Ann.leaf Ann.leaf)) (Ann.seq (Ann.block (Ann.seq Ann.text (Ann.cond (Ann.seq Ann.text Ann.leaf) Ann.leaf))) Ann.text))))) (Ann.seq Ann.text Ann.leaf)))
    Try.func69 (by kernel_rfl) (by kernel_rfl)
    (Eq.mp (by kernel_rfl) h)
/-! breakwater/breakwaterref43.Pure: function 35 -/
def sh35 (x0 : Value) (R : Kt) (w : World) : Prop :=
  M.loop [(Value.slice none 0 0), (Value.int IntKind.i64 0)] (fun s1 K1 w => ∀ _ : List Value,
  M.len x0 (fun t9 w =>
  M.bin .lss (s1.getD 1 undef) t9 (fun t10 w =>
  M.cond t10
  (M.loop [(s1.getD 0 undef), (Value.int IntKind.i64 0)] (fun s2 K2 w => ∀ _ : List Value,
  M.indexSl 1 x0 (s1.getD 1 undef) (fun t16 w =>
  M.load1 t16 (fun t17 w =>
  M.len t17 (fun t18 w =>
  M.bin .lss (s2.getD 1 undef) t18 (fun t19 w =>
  M.cond t19
  (M.share (fun K3 w =>
  M.indexSl 1 x0 (s1.getD 1 undef) (fun t24 w =>
  M.load1 t24 (fun t25 w =>
  M.indexSl 1 t25 (s2.getD 1 undef) (fun t27 w =>
  M.load1 t27 (fun t28 w =>
  M.bin .geq t28 (Value.int IntKind.i64 0) (fun t30 w =>
  M.gd t30 true (fun k w => k x0 w) (fun t32 w =>
  M.gd t30 true (fun k w => k t28 w) (fun t33 w =>
  M.gd t30 true (fun k w => M.call Try.prog 51 #[t33] k w) (fun t34 w =>
  M.gd t30 true (fun k w => M.call Try.prog 69 #[t32, t34] k w) (fun t35 w =>
  M.gd t30 true (fun k w => M.not t35 k w) (fun t36 w =>
  M.pick t30 t36 (Value.bool false) (fun t37 w =>
  M.cond t37
  (M.buildSlice 3 1 #[.int .i64 0] 1 [(0, t28)] (fun t40 w =>
  M.append 3 1 8 #[.int .i64 0] (s2.getD 0 undef) t40 (fun t41 w =>
  K3 [t41] w) w) w)
  (K3 [(s2.getD 0 undef)] w)) w) w) w) w) w) w) w) w) w) w) w) (fun s3 w => ∀ _ : List Value,
  M.bin .add (s2.getD 1 undef) (Value.int IntKind.i64 1) (fun t21 w =>
  K2 [(s3.getD 0 undef), t21] w) w) w)
  (M.bin .add (s1.getD 1 undef) (Value.int IntKind.i64 1) (fun t12 w =>
  K1 [(s2.getD 0 undef), t12] w) w)) w) w) w) w) w)
  (M.call Try.prog 52 #[(s1.getD 0 undef)] (fun t43 w =>
  R t43 w) w)) w) w) w
theorem ok35 (x0 : Value) (R : Kt) (w : World) (h : sh35 x0 R w) : Ret Try.prog 35 #[x0] w R :=
  ret_mk <| calls_of_comp mixed (c := Try.f35.body.getD .skip) (args := [x0]) (rs := [(ResultVar.tmp 2)]) (Ann.seq Ann.text (Ann.seq Ann.text (Ann.seq (Ann.seq Ann.text (Ann.block (Ann.loop [3, 4] [5, 6, 7, 8, 9, 10, 11, 12, 13, 14, 15, 16, 17, 18, 19, 20, 21, 22, 23, 24, 25, 26, 27, 28, 29, 30, 31, 32, 33, 34, 35, 36, 37, 38, 39, 40, 41] (Ann.seq (Ann.seq Ann.text (Ann.cond Ann.leaf Ann.leaf)) (Ann.seq (Ann.block (Ann.seq Ann.text (Ann.block (Ann.loop [3, 5] [6, 13, 14, 15, 16, 17, 18, 19, 20, 21, 22, 23, 24, 25, 26, 27, 28, 29, 30, 31, 32, 33, 34, 35, 36, 37, 38, 39, 40, 41] (Ann.seq (Ann.seq Ann.text (Ann.cond Ann.leaf Ann.leaf)) (Ann.seq (Ann.jblock [3] [6, 22, 23, 24, 25, 26, 27, 28, 29, 30, 31, 32, 33, 34, 35, 36, 37, 38, 39, 40, 41] (Ann.seq Ann.text (Ann.seq Ann.text (Ann.cond Ann.text Ann.leaf)))) Ann.text)))))) Ann.text))))) (Ann.seq Ann.text Ann.leaf))))
    Try.func35 (by kernel_rfl) (by kernel_rfl)
    (Eq.mp (by kernel_rfl) h)
/-! breakwater/breakwaterref04.Check: function 38 -/
def sh38 (x0 x1 : Value) (R : Kt) (w : World) : Prop :=
  M.bin .lss x0 (Value.int IntKind.i64 0) (fun t8 w =>
  M.gd t8 false (fun k w => k x0 w) (fun t10 w =>
  M.gd t8 false (fun k w => M.bin .gtr t10 (Value.int IntKind.i64 1048576) k w) (fun t11 w =>
  M.pick t8 (Value.bool true) t11 (fun t12 w =>
  M.cond t12
  (R (Value.int IntKind.i64 10) w)
  (M.len x1 (fun t14 w =>
  M.bin .gtr t14 (Value.int IntKind.i64 1048576) (fun t15 w =>
  M.cond t15
  (R (Value.int IntKind.i64 8) w)
  (M.loop [(Value.int IntKind.i64 0)] (fun s1 K1 w => ∀ _ : List Value,
  M.len x1 (fun t18 w =>
  M.bin .lss (s1.getD 0 undef) t18 (fun t19 w =>
  M.cond t19
  (M.loop [(Value.int IntKind.i64 0)] (fun s2 K2 w => ∀ _ : List Value,
  M.indexSl 1 x1 (s1.getD 0 undef) (fun t25 w =>
  M.load1 t25 (fun t26 w =>
  M.len t26 (fun t27 w =>
  M.bin .lss (s2.getD 0 undef) t27 (fun t28 w =>
  M.cond t28
  (M.indexSl 1 x1 (s1.getD 0 undef) (fun t33 w =>
  M.load1 t33 (fun t34 w =>
  M.indexSl 1 t34 (s2.getD 0 undef) (fun t36 w =>
  M.load1 t36 (fun t37 w =>
  M.bin .lss t37 (Value.int IntKind.i64 0) (fun t38 w =>
  M.gd t38 false (fun k w => k x1 w) (fun t40 w =>
  M.gd t38 false (fun k w => k (s1.getD 0 undef) w) (fun t41 w =>
  M.gd t38 false (fun k w => M.indexSl 1 t40 t41 k w) (fun t42 w =>
  M.gd t38 false (fun k w => M.load1 t42 k w) (fun t43 w =>
  M.gd t38 false (fun k w => k (s2.getD 0 undef) w) (fun t44 w =>
  M.gd t38 false (fun k w => M.indexSl 1 t43 t44 k w) (fun t45 w =>
  M.gd t38 false (fun k w => M.load1 t45 k w) (fun t46 w =>
  M.gd t38 false (fun k w => M.bin .quo t46 (Value.int IntKind.i64 2) k w) (fun t47 w =>
  M.gd t38 false (fun k w => k x0 w) (fun t48 w =>
  M.gd t38 false (fun k w => M.bin .geq t47 t48 k w) (fun t49 w =>
  M.pick t38 (Value.bool true) t49 (fun t50 w =>
  M.cond t50
  (R (Value.int IntKind.i64 10) w)
  (M.bin .add (s2.getD 0 undef) (Value.int IntKind.i64 1) (fun t30 w =>
  K2 [t30] w) w)) w) w) w) w) w) w) w) w) w) w) w) w) w) w) w) w)
  (M.bin .add (s1.getD 0 undef) (Value.int IntKind.i64 1) (fun t21 w =>
  K1 [t21] w) w)) w) w) w) w) w)
  (R (Value.int IntKind.i64 0) w)) w) w) w)) w) w)) w) w) w) w
theorem ok38 (x0 x1 : Value) (R : Kt) (w : World) (h : sh38 x0 x1 R w) : Ret Try.prog 38 #[x0, x1] w R :=
  ret_mk <| calls_of_comp mixed (c := Try.f38.body.getD .skip) (args := [x0, x1]) (rs := [(ResultVar.tmp 4)]) (Ann.seq Ann.text (Ann.seq (Ann.seq Ann.text (Ann.cond (Ann.seq Ann.text Ann.leaf) Ann.leaf)) (Ann.seq (Ann.seq Ann.text (Ann.cond (Ann.seq Ann.text Ann.leaf) Ann.leaf)) (Ann.seq (Ann.seq Ann.text (Ann.block (Ann.loop [5] [4, 6, 16, 17, 18, 19, 20, 21, 22, 23, 24, 25, 26, 27, 28, 29, 30, 31, 32, 33, 34, 35, 36, 37, 38, 39, 40, 41, 42, 43, 44, 45, 46, 47, 48, 49, 50] (Ann.seq (Ann.seq Ann.text (Ann.cond Ann.leaf Ann.leaf)) (Ann.seq (Ann.block (Ann.seq Ann.text (Ann.block (Ann.loop [6] [4, 22, 23, 24, 25, 26, 27, 28, 29, 30, 31, 32, 33, 34, 35, 36, 37, 38, 39, 40, 41, 42, 43, 44, 45, 46, 47, 48, 49, 50] (Ann.seq (Ann.seq Ann.text (Ann.cond Ann.leaf Ann.leaf)) (Ann.seq (Ann.block (Ann.seq Ann.text (Ann.cond (Ann.seq Ann.text Ann.leaf) Ann.leaf))) Ann.text)))))) Ann.text))))) (Ann.seq Ann.text Ann.leaf)))))
    Try.func38 (by kernel_rfl) (by kernel_rfl)
    (Eq.mp (by kernel_rfl) h)
/-! breakwater/breakwaterref04.Truths: function 109 -/
def sh109 (x0 x1 : Value) (R : Kt) (w : World) : Prop :=
  M.loop [x1, (Value.slice none 0 0), (Value.int IntKind.i64 0)] (fun s1 K1 w => ∀ _ : List Value,
  M.bin .lss (s1.getD 2 undef) x0 (fun t9 w =>
  M.cond t9
  (M.bin .rem (s1.getD 0 undef) (Value.int IntKind.i64 2) (fun t14 w =>
  M.bin .eql t14 (Value.int IntKind.i64 1) (fun t15 w =>
  M.buildSlice 4 1 #[.bool false] 1 [(0, t15)] (fun t16 w =>
  M.append 4 1 1 #[.bool false] (s1.getD 1 undef) t16 (fun t17 w =>
  M.bin .quo (s1.getD 0 undef) (Value.int IntKind.i64 2) (fun t19 w =>
  M.bin .add (s1.getD 2 undef) (Value.int IntKind.i64 1) (fun t11 w =>
  K1 [t19, t17, t11] w) w) w) w) w) w) w)
  (R (s1.getD 1 undef) w)) w) w
theorem ok109 (x0 x1 : Value) (R : Kt) (w : World) (h : sh109 x0 x1 R w) : Ret Try.prog 109 #[x0, x1] w R :=
  ret_mk <| calls_of_comp mixed (c := Try.f109.body.getD .skip) (args := [x0, x1]) (rs := [(ResultVar.tmp 4)]) (Ann.seq Ann.text (Ann.seq Ann.text (Ann.seq (Ann.seq Ann.text (Ann.block (Ann.loop [1, 5, 6] [7, 8, 9, 10, 11, 12, 13, 14, 15, 16, 17, 18, 19] (Ann.seq (Ann.seq Ann.text (Ann.cond Ann.leaf Ann.leaf)) (Ann.seq (Ann.block (Ann.seq Ann.text Ann.text)) Ann.text))))) (Ann.seq Ann.text Ann.leaf))))
    Try.func109 (by kernel_rfl) (by kernel_rfl)
    (Eq.mp (by kernel_rfl) h)
/-! breakwater/breakwaterref04.all: function 72 -/
def sh72 (x0 x1 : Value) (R : Kt) (w : World) : Prop :=
  M.loop [(Value.int IntKind.i64 0), (Value.int IntKind.i64 (-1)), (Value.int IntKind.i64 0)] (fun s1 K1 w => ∀ _ : List Value,
  M.conv .u64 x0 (fun t11 w =>
  M.shift .shl (Value.int IntKind.i64 1) t11 (fun t12 w =>
  M.bin .lss (s1.getD 2 undef) t12 (fun t13 w =>
  M.cond t13
  (M.share (fun K2 w =>
  M.call Try.prog 109 #[x0, (s1.getD 2 undef)] (fun t19 w =>
  M.call Try.prog 39 #[x1, t19] (fun t20 w =>
  M.bin .lss t20 (Value.int IntKind.i64 0) (fun t21 w =>
  M.cond t21
  (M.share (fun K3 w =>
  M.bin .lss (s1.getD 1 undef) (Value.int IntKind.i64 0) (fun t23 w =>
  M.cond t23
  (K3 [(s1.getD 2 undef)] w)
  (K3 [(s1.getD 1 undef)] w)) w) (fun s3 w => ∀ _ : List Value,
  M.bin .add (s1.getD 0 undef) (Value.int IntKind.i64 1) (fun t26 w =>
  K2 [t26, (s3.getD 0 undef)] w) w) w)
  (K2 [(s1.getD 0 undef), (s1.getD 1 undef)] w)) w) w) w) (fun s2 w => ∀ _ : List Value,
  M.bin .add (s1.getD 2 undef) (Value.int IntKind.i64 1) (fun t15 w =>
  K1 [(s2.getD 0 undef), (s2.getD 1 undef), t15] w) w) w)
  (R (.tuple #[(s1.getD 0 undef), (s1.getD 1 undef)]) w)) w) w) w) w
theorem ok72 (x0 x1 : Value) (R : Kt) (w : World) (h : sh72 x0 x1 R w) : Ret Try.prog 72 #[x0, x1] w R :=
  ret_mk <| calls_of_comp mixed (c := Try.f72.body.getD .skip) (args := [x0, x1]) (rs := [(ResultVar.tmp 4), (ResultVar.tmp 5)]) (Ann.seq Ann.text (Ann.seq Ann.text (Ann.seq Ann.text (Ann.seq (Ann.seq Ann.text (Ann.block (Ann.loop [6, 7, 8] [9, 10, 11, 12, 13, 14, 15, 16, 17, 18, 19, 20, 21, 22, 23, 24, 25, 26] (Ann.seq (Ann.seq Ann.text (Ann.cond Ann.leaf Ann.leaf)) (Ann.seq (Ann.jblock [6, 7] [16, 17, 18, 19, 20, 21, 22, 23, 24, 25, 26] (Ann.seq Ann.text (Ann.cond (Ann.join [7] [22, 23, 24] (Ann.seq Ann.text (Ann.cond Ann.text Ann.leaf)) Ann.text) Ann.leaf))) Ann.text))))) (Ann.seq Ann.text Ann.leaf)))))
    Try.func72 (by kernel_rfl) (by kernel_rfl)
    (Eq.mp (by kernel_rfl) h)
/-! breakwater/breakwaterref04.may: function 71 -/
def sh71 (x0 x1 : Value) (R : Kt) (w : World) : Prop :=
  M.call Try.prog 38 #[x0, x1] (fun t8 w =>
  M.bin .neq t8 (Value.int IntKind.i64 0) (fun t10 w =>
  M.cond t10
  (R t8 w)
  (M.bin .gtr x0 (Value.int IntKind.i64 16) (fun t13 w =>
  M.cond t13
  (R (Value.int IntKind.i64 8) w)
  (R (Value.int IntKind.i64 0) w)) w)) w) w
theorem ok71 (x0 x1 : Value) (R : Kt) (w : World) (h : sh71 x0 x1 R w) : Ret Try.prog 71 #[x0, x1] w R :=
  ret_mk <| calls_of_comp mixed (c := Try.f71.body.getD .skip) (args := [x0, x1]) (rs := [(ResultVar.tmp 4)]) (Ann.seq Ann.text (Ann.seq (Ann.seq Ann.text (Ann.seq Ann.text (Ann.cond (Ann.seq Ann.text Ann.leaf) Ann.leaf))) (Ann.seq (Ann.seq Ann.text (Ann.cond (Ann.seq Ann.text Ann.leaf) Ann.leaf)) (Ann.seq Ann.text Ann.leaf))))
    Try.func71 (by kernel_rfl) (by kernel_rfl)
    (Eq.mp (by kernel_rfl) h)
/-! breakwater/breakwaterref04.Count: function 40 -/
def sh40 (x0 x1 : Value) (R : Kt) (w : World) : Prop :=
  M.call Try.prog 71 #[x0, x1] (fun t11 w =>
  M.bin .neq t11 (Value.int IntKind.i64 0) (fun t13 w =>
  M.cond t13
  (R (.tuple #[(Value.int IntKind.i64 0), t11]) w)
  (M.call Try.prog 72 #[x0, x1] (fun t18 w =>
  M.extract 0 t18 (fun t19 w =>
  M.extract 1 t18 (fun t20 w =>
  R (.tuple #[t19, (Value.int IntKind.i64 0)]) w) w) w) w)) w) w
theorem ok40 (x0 x1 : Value) (R : Kt) (w : World) (h : sh40 x0 x1 R w) : Ret Try.prog 40 #[x0, x1] w R :=
  ret_mk <| calls_of_comp mixed (c := Try.f40.body.getD .skip) (args := [x0, x1]) (rs := [(ResultVar.tmp 4), (ResultVar.tmp 5)]) (Ann.seq Ann.text (Ann.seq (Ann.seq Ann.text (Ann.seq Ann.text (Ann.cond (Ann.seq Ann.text Ann.leaf) Ann.leaf))) (Ann.seq Ann.text (Ann.seq Ann.text Ann.leaf))))
    Try.func40 (by kernel_rfl) (by kernel_rfl)
    (Eq.mp (by kernel_rfl) h)

theorem flatten_snoc {l : List (List Int)} {i : Nat} {c : List Int} (h : l[i]? = some c) : (l.take (i + 1)).flatten = (l.take i).flatten ++ c := by
  rw [take_snoc h]; simp
theorem flatten_take_le (l : List (List Int)) (i : Nat) : (l.take i).flatten.length ≤ l.flatten.length := by
  have h : (l.take i).flatten ++ (l.drop i).flatten = l.flatten := by rw [← List.flatten_append, List.take_append_drop]
  rw [← h, List.length_append]; omega
theorem flatten_take_c {l : List (List Int)} {i : Nat} {c : List Int} (h : l[i]? = some c) : (l.take i).flatten.length + c.length ≤ l.flatten.length := by
  have := flatten_take_le l (i + 1)
  rw [flatten_snoc h, List.length_append] at this
  exact this
set_option maxHeartbeats 2000000 in
theorem pure_ret {w : World} {D : Nat → Prop} {u : Value} {l : List (List Int)} (hl : LL w D u l) (hfl : l.length ≤ 1000000) (hft : l.flatten.length ≤ 100000000) (hI : ∀ c ∈ l, ∀ x ∈ c, I64 x) :
    Ret Try.prog 34 #[u] w (fun r w' => GI w' (w.heap.size ≤ ·) r (pureL l) ∧ Keep w w' No) := by
  obtain ⟨A, cp, us, rfl, hlr, hcp⟩ := id hl
  have hIf : ∀ x ∈ l.flatten, I64 x := fun x hx => by
    obtain ⟨c, h1, h2⟩ := List.mem_flatten.1 hx
    exact hI c h1 x h2
  refine ok34 _ _ _ ?_
  unfold sh34
  have hlr := hlr.mono (D' := fun b => b < w.heap.size) (fun b hb _ => hb)
  refine M.makeMap_i (fun w1 hm k1 s1 => ?_)
  have hm : SetO w1 w.heap.size [] := hm
  (repeat (first | refine M.len_i ?_ | refine M.nilCheck_i ?_ | refine M.field_i ?_ | refine M.draw_i ?_ | refine M.cap_i ?_ | refine M.gd_tt ?_ | refine M.gd_ff ?_ | refine M.gd_ft ?_ | refine M.gd_tf ?_ | refine M.gd_u ?_ | refine M.pick_t ?_ | refine M.pick_f ?_ | refine M.not_t ?_ | refine M.not_f ?_ | refine M.cond_t ?_ | refine M.cond_f ?_ | refine M.eqNilP_tn ?_ | refine M.eqNilP_ts ?_ | refine M.eqNilP_fn ?_ | refine M.eqNilP_fs ?_ | refine M.eqNilS_tn ?_ | refine M.eqNilS_ts ?_ | refine M.eqNilS_fn ?_ | refine M.eqNilS_fs ?_ | refine M.lss_t (by omega) ?_ | refine M.lss_f (by omega) ?_ | refine M.leq_t (by omega) ?_ | refine M.leq_f (by omega) ?_ | refine M.gtr_t (by omega) ?_ | refine M.gtr_f (by omega) ?_ | refine M.geq_t (by omega) ?_ | refine M.geq_f (by omega) ?_ | refine M.eql_t (by omega) ?_ | refine M.eql_f (by omega) ?_ | refine M.neq_t (by omega) ?_ | refine M.neq_f (by omega) ?_ | refine M.add_i (by omega) (by omega) ?_ | refine M.sub_i (by omega) (by omega) ?_ | refine M.load_i (by assumption) ?_ | refine M.loadB_i (by assumption) rfl ?_ | refine M.st_i (by assumption) ?_ | refine M.stB_i (by assumption) rfl ?_ | refine M.gs_ff ?_ | refine M.gs_tt ?_ | refine M.gs_ft ?_ | refine M.gs_tf ?_ | refine M.stAll_i (by assumption) rfl ?_))
  refine M.loop_i (σ := Nat × List Int) (fun t vals w' => vals = [vi t.1] ∧ t.1 ≤ l.length ∧ SetO w' w.heap.size t.2 ∧ (∀ y, y ∈ t.2 ↔ y ∈ (l.take t.1).flatten) ∧ t.2.length ≤ (l.take t.1).flatten.length ∧ Keep w w' No) (fun t => l.length - t.1) (0, [])
    ⟨rfl, by show 0 ≤ l.length; omega, hm, by simp, by simp, k1⟩ ?_
  rintro ⟨i, s⟩ vals w2 K ⟨rfl, hi, hm, hmem, hsl, k2⟩ hK _
  simp only at hi hm hmem hsl
  simp only [List.getD_cons_zero, List.getD_cons_succ]
  have hl2 := hlr.keep k2 (fun _ _ _ h => h)
  by_cases hlt : i < l.length
  · obtain ⟨c, hc⟩ : ∃ c, l[i]? = some c := ⟨_, List.getElem?_eq_getElem hlt⟩
    have hcm := List.mem_of_getElem? hc
    have hcl := flatten_take_c hc
    (repeat (first | refine M.len_i ?_ | refine M.nilCheck_i ?_ | refine M.field_i ?_ | refine M.draw_i ?_ | refine M.cap_i ?_ | refine M.gd_tt ?_ | refine M.gd_ff ?_ | refine M.gd_ft ?_ | refine M.gd_tf ?_ | refine M.gd_u ?_ | refine M.pick_t ?_ | refine M.pick_f ?_ | refine M.not_t ?_ | refine M.not_f ?_ | refine M.cond_t ?_ | refine M.cond_f ?_ | refine M.eqNilP_tn ?_ | refine M.eqNilP_ts ?_ | refine M.eqNilP_fn ?_ | refine M.eqNilP_fs ?_ | refine M.eqNilS_tn ?_ | refine M.eqNilS_ts ?_ | refine M.eqNilS_fn ?_ | refine M.eqNilS_fs ?_ | refine M.lss_t (by omega) ?_ | refine M.lss_f (by omega) ?_ | refine M.leq_t (by omega) ?_ | refine M.leq_f (by omega) ?_ | refine M.gtr_t (by omega) ?_ | refine M.gtr_f (by omega) ?_ | refine M.geq_t (by omega) ?_ | refine M.geq_f (by omega) ?_ | refine M.eql_t (by omega) ?_ | refine M.eql_f (by omega) ?_ | refine M.neq_t (by omega) ?_ | refine M.neq_f (by omega) ?_ | refine M.add_i (by omega) (by omega) ?_ | refine M.sub_i (by omega) (by omega) ?_ | refine M.load_i (by assumption) ?_ | refine M.loadB_i (by assumption) rfl ?_ | refine M.st_i (by assumption) ?_ | refine M.stB_i (by assumption) rfl ?_ | refine M.gs_ff ?_ | refine M.gs_tt ?_ | refine M.gs_ft ?_ | refine M.gs_tf ?_ | refine M.stAll_i (by assumption) rfl ?_))
    refine M.idxLL_i hl2 rfl (by omega) (c := c) (by simpa using hc) (fun bb oo x hcell hx => ?_)
    obtain ⟨A2, c2, rfl, hr2, _⟩ := id hx
    (repeat (first | refine M.len_i ?_ | refine M.nilCheck_i ?_ | refine M.field_i ?_ | refine M.draw_i ?_ | refine M.cap_i ?_ | refine M.gd_tt ?_ | refine M.gd_ff ?_ | refine M.gd_ft ?_ | refine M.gd_tf ?_ | refine M.gd_u ?_ | refine M.pick_t ?_ | refine M.pick_f ?_ | refine M.not_t ?_ | refine M.not_f ?_ | refine M.cond_t ?_ | refine M.cond_f ?_ | refine M.eqNilP_tn ?_ | refine M.eqNilP_ts ?_ | refine M.eqNilP_fn ?_ | refine M.eqNilP_fs ?_ | refine M.eqNilS_tn ?_ | refine M.eqNilS_ts ?_ | refine M.eqNilS_fn ?_ | refine M.eqNilS_fs ?_ | refine M.lss_t (by omega) ?_ | refine M.lss_f (by omega) ?_ | refine M.leq_t (by omega) ?_ | refine M.leq_f (by omega) ?_ | refine M.gtr_t (by omega) ?_ | refine M.gtr_f (by omega) ?_ | refine M.geq_t (by omega) ?_ | refine M.geq_f (by omega) ?_ | refine M.eql_t (by omega) ?_ | refine M.eql_f (by omega) ?_ | refine M.neq_t (by omega) ?_ | refine M.neq_f (by omega) ?_ | refine M.add_i (by omega) (by omega) ?_ | refine M.sub_i (by omega) (by omega) ?_ | refine M.load_i (by assumption) ?_ | refine M.loadB_i (by assumption) rfl ?_ | refine M.st_i (by assumption) ?_ | refine M.stB_i (by assumption) rfl ?_ | refine M.gs_ff ?_ | refine M.gs_tt ?_ | refine M.gs_ft ?_ | refine M.gs_tf ?_ | refine M.stAll_i (by assumption) rfl ?_))
    refine M.loop_i (σ := Nat × List Int) (fun t vals w' => vals = [vi t.1] ∧ t.1 ≤ c.length ∧ SetO w' w.heap.size t.2 ∧ (∀ y, y ∈ t.2 ↔ y ∈ (l.take i).flatten ++ c.take t.1) ∧ t.2.length ≤ (l.take i).flatten.length + t.1 ∧ Keep w w' No ∧ Keep w2 w' (· = w.heap.size)) (fun t => c.length - t.1) (0, s)
      ⟨rfl, by show 0 ≤ c.length; omega, hm, by simpa using hmem, by simpa using hsl, k2, Keep.refl _ _⟩ ?_
    rintro ⟨j, s⟩ vals w3 K2 ⟨rfl, hj, hm, hmem, hsl, k3, k23⟩ hK2 _
    simp only at hj hm hmem hsl
    simp only [List.getD_cons_zero, List.getD_cons_succ]
    have hl3 := hlr.keep k3 (fun _ _ _ h => h)
    by_cases hjl : j < c.length
    · obtain ⟨y, hy⟩ : ∃ y, c[j]? = some y := ⟨_, List.getElem?_eq_getElem hjl⟩
      (repeat (first | refine M.len_i ?_ | refine M.nilCheck_i ?_ | refine M.field_i ?_ | refine M.draw_i ?_ | refine M.cap_i ?_ | refine M.gd_tt ?_ | refine M.gd_ff ?_ | refine M.gd_ft ?_ | refine M.gd_tf ?_ | refine M.gd_u ?_ | refine M.pick_t ?_ | refine M.pick_f ?_ | refine M.not_t ?_ | refine M.not_f ?_ | refine M.cond_t ?_ | refine M.cond_f ?_ | refine M.eqNilP_tn ?_ | refine M.eqNilP_ts ?_ | refine M.eqNilP_fn ?_ | refine M.eqNilP_fs ?_ | refine M.eqNilS_tn ?_ | refine M.eqNilS_ts ?_ | refine M.eqNilS_fn ?_ | refine M.eqNilS_fs ?_ | refine M.lss_t (by omega) ?_ | refine M.lss_f (by omega) ?_ | refine M.leq_t (by omega) ?_ | refine M.leq_f (by omega) ?_ | refine M.gtr_t (by omega) ?_ | refine M.gtr_f (by omega) ?_ | refine M.geq_t (by omega) ?_ | refine M.geq_f (by omega) ?_ | refine M.eql_t (by omega) ?_ | refine M.eql_f (by omega) ?_ | refine M.neq_t (by omega) ?_ | refine M.neq_f (by omega) ?_ | refine M.add_i (by omega) (by omega) ?_ | refine M.sub_i (by omega) (by omega) ?_ | refine M.load_i (by assumption) ?_ | refine M.loadB_i (by assumption) rfl ?_ | refine M.st_i (by assumption) ?_ | refine M.stB_i (by assumption) rfl ?_ | refine M.gs_ff ?_ | refine M.gs_tt ?_ | refine M.gs_ft ?_ | refine M.gs_tf ?_ | refine M.stAll_i (by assumption) rfl ?_))
      have hr3 := hr2.keep k23 (fun b _ h1 h2 => by have h1 : b < w.heap.size := h1; have h2 : b = w.heap.size := h2; omega)
      refine M.idxLV_i hr3 rfl (by omega) (by omega) (x := y) (by simpa using hy) (fun bb oo hA hcc => ?_)
      (repeat (first | refine M.len_i ?_ | refine M.nilCheck_i ?_ | refine M.field_i ?_ | refine M.draw_i ?_ | refine M.cap_i ?_ | refine M.gd_tt ?_ | refine M.gd_ff ?_ | refine M.gd_ft ?_ | refine M.gd_tf ?_ | refine M.gd_u ?_ | refine M.pick_t ?_ | refine M.pick_f ?_ | refine M.not_t ?_ | refine M.not_f ?_ | refine M.cond_t ?_ | refine M.cond_f ?_ | refine M.eqNilP_tn ?_ | refine M.eqNilP_ts ?_ | refine M.eqNilP_fn ?_ | refine M.eqNilP_fs ?_ | refine M.eqNilS_tn ?_ | refine M.eqNilS_ts ?_ | refine M.eqNilS_fn ?_ | refine M.eqNilS_fs ?_ | refine M.lss_t (by omega) ?_ | refine M.lss_f (by omega) ?_ | refine M.leq_t (by omega) ?_ | refine M.leq_f (by omega) ?_ | refine M.gtr_t (by omega) ?_ | refine M.gtr_f (by omega) ?_ | refine M.geq_t (by omega) ?_ | refine M.geq_f (by omega) ?_ | refine M.eql_t (by omega) ?_ | refine M.eql_f (by omega) ?_ | refine M.neq_t (by omega) ?_ | refine M.neq_f (by omega) ?_ | refine M.add_i (by omega) (by omega) ?_ | refine M.sub_i (by omega) (by omega) ?_ | refine M.load_i (by assumption) ?_ | refine M.loadB_i (by assumption) rfl ?_ | refine M.st_i (by assumption) ?_ | refine M.stB_i (by assumption) rfl ?_ | refine M.gs_ff ?_ | refine M.gs_tt ?_ | refine M.gs_ft ?_ | refine M.gs_tf ?_ | refine M.stAll_i (by assumption) rfl ?_))
      refine M.mapUpdate_i (kt := 3) (et := 4) (by kernel_rfl) (by kernel_rfl) hm (fun w4 h4 k4 s4 => ?_)
      rw [upd_set] at h4
      (repeat (first | refine M.len_i ?_ | refine M.nilCheck_i ?_ | refine M.field_i ?_ | refine M.draw_i ?_ | refine M.cap_i ?_ | refine M.gd_tt ?_ | refine M.gd_ff ?_ | refine M.gd_ft ?_ | refine M.gd_tf ?_ | refine M.gd_u ?_ | refine M.pick_t ?_ | refine M.pick_f ?_ | refine M.not_t ?_ | refine M.not_f ?_ | refine M.cond_t ?_ | refine M.cond_f ?_ | refine M.eqNilP_tn ?_ | refine M.eqNilP_ts ?_ | refine M.eqNilP_fn ?_ | refine M.eqNilP_fs ?_ | refine M.eqNilS_tn ?_ | refine M.eqNilS_ts ?_ | refine M.eqNilS_fn ?_ | refine M.eqNilS_fs ?_ | refine M.lss_t (by omega) ?_ | refine M.lss_f (by omega) ?_ | refine M.leq_t (by omega) ?_ | refine M.leq_f (by omega) ?_ | refine M.gtr_t (by omega) ?_ | refine M.gtr_f (by omega) ?_ | refine M.geq_t (by omega) ?_ | refine M.geq_f (by omega) ?_ | refine M.eql_t (by omega) ?_ | refine M.eql_f (by omega) ?_ | refine M.neq_t (by omega) ?_ | refine M.neq_f (by omega) ?_ | refine M.add_i (by omega) (by omega) ?_ | refine M.sub_i (by omega) (by omega) ?_ | refine M.load_i (by assumption) ?_ | refine M.loadB_i (by assumption) rfl ?_ | refine M.st_i (by assumption) ?_ | refine M.stB_i (by assumption) rfl ?_ | refine M.gs_ff ?_ | refine M.gs_tt ?_ | refine M.gs_ft ?_ | refine M.gs_tf ?_ | refine M.stAll_i (by assumption) rfl ?_))
      refine hK2 (j + 1, addS s y) _ _ (by show c.length - (j + 1) < c.length - j; omega) ⟨by simp, by show j + 1 ≤ c.length; omega, h4, fun z => ?_, ?_, k3.trans k4 (fun b hb h => by omega), k23.trans k4 (fun _ _ h => h)⟩
      · show z ∈ addS s y ↔ z ∈ (l.take i).flatten ++ c.take (j + 1)
        rw [mem_addS, hmem, take_snoc hy]
        simp only [List.mem_append, List.mem_singleton]
        constructor
        · rintro (h | h | h)
          · exact .inr (.inr h)
          · exact .inl h
          · exact .inr (.inl h)
        · rintro (h | h | h)
          · exact .inr (.inl h)
          · exact .inr (.inr h)
          · exact .inl h
      · show (addS s y).length ≤ _ + (j + 1)
        have : (addS s y).length ≤ s.length + 1 := by
          unfold addS
          split <;> simp
        omega
    · (repeat (first | refine M.len_i ?_ | refine M.nilCheck_i ?_ | refine M.field_i ?_ | refine M.draw_i ?_ | refine M.cap_i ?_ | refine M.gd_tt ?_ | refine M.gd_ff ?_ | refine M.gd_ft ?_ | refine M.gd_tf ?_ | refine M.gd_u ?_ | refine M.pick_t ?_ | refine M.pick_f ?_ | refine M.not_t ?_ | refine M.not_f ?_ | refine M.cond_t ?_ | refine M.cond_f ?_ | refine M.eqNilP_tn ?_ | refine M.eqNilP_ts ?_ | refine M.eqNilP_fn ?_ | refine M.eqNilP_fs ?_ | refine M.eqNilS_tn ?_ | refine M.eqNilS_ts ?_ | refine M.eqNilS_fn ?_ | refine M.eqNilS_fs ?_ | refine M.lss_t (by omega) ?_ | refine M.lss_f (by omega) ?_ | refine M.leq_t (by omega) ?_ | refine M.leq_f (by omega) ?_ | refine M.gtr_t (by omega) ?_ | refine M.gtr_f (by omega) ?_ | refine M.geq_t (by omega) ?_ | refine M.geq_f (by omega) ?_ | refine M.eql_t (by omega) ?_ | refine M.eql_f (by omega) ?_ | refine M.neq_t (by omega) ?_ | refine M.neq_f (by omega) ?_ | refine M.add_i (by omega) (by omega) ?_ | refine M.sub_i (by omega) (by omega) ?_ | refine M.load_i (by assumption) ?_ | refine M.loadB_i (by assumption) rfl ?_ | refine M.st_i (by assumption) ?_ | refine M.stB_i (by assumption) rfl ?_ | refine M.gs_ff ?_ | refine M.gs_tt ?_ | refine M.gs_ft ?_ | refine M.gs_tf ?_ | refine M.stAll_i (by assumption) rfl ?_))
      have : j = c.length := by omega
      subst this
      rw [List.take_length] at hmem
      refine hK (i + 1, s) _ _ (by show l.length - (i + 1) < l.length - i; omega) ⟨by simp, by show i + 1 ≤ l.length; omega, hm, fun y => ?_, ?_, k3⟩
      · show y ∈ s ↔ y ∈ (l.take (i + 1)).flatten
        rw [hmem, flatten_snoc hc]
      · show s.length ≤ (l.take (i + 1)).flatten.length
        rw [flatten_snoc hc, List.length_append]; omega
  · have : i = l.length := by omega
    subst this
    rw [List.take_length] at hmem hsl
    have hnd := keys_nodup hm
    clear hK hlt
    (repeat (first | refine M.len_i ?_ | refine M.nilCheck_i ?_ | refine M.field_i ?_ | refine M.draw_i ?_ | refine M.cap_i ?_ | refine M.gd_tt ?_ | refine M.gd_ff ?_ | refine M.gd_ft ?_ | refine M.gd_tf ?_ | refine M.gd_u ?_ | refine M.pick_t ?_ | refine M.pick_f ?_ | refine M.not_t ?_ | refine M.not_f ?_ | refine M.cond_t ?_ | refine M.cond_f ?_ | refine M.eqNilP_tn ?_ | refine M.eqNilP_ts ?_ | refine M.eqNilP_fn ?_ | refine M.eqNilP_fs ?_ | refine M.eqNilS_tn ?_ | refine M.eqNilS_ts ?_ | refine M.eqNilS_fn ?_ | refine M.eqNilS_fs ?_ | refine M.lss_t (by omega) ?_ | refine M.lss_f (by omega) ?_ | refine M.leq_t (by omega) ?_ | refine M.leq_f (by omega) ?_ | refine M.gtr_t (by omega) ?_ | refine M.gtr_f (by omega) ?_ | refine M.geq_t (by omega) ?_ | refine M.geq_f (by omega) ?_ | refine M.eql_t (by omega) ?_ | refine M.eql_f (by omega) ?_ | refine M.neq_t (by omega) ?_ | refine M.neq_f (by omega) ?_ | refine M.add_i (by omega) (by omega) ?_ | refine M.sub_i (by omega) (by omega) ?_ | refine M.load_i (by assumption) ?_ | refine M.loadB_i (by assumption) rfl ?_ | refine M.st_i (by assumption) ?_ | refine M.stB_i (by assumption) rfl ?_ | refine M.gs_ff ?_ | refine M.gs_tt ?_ | refine M.gs_ft ?_ | refine M.gs_tf ?_ | refine M.stAll_i (by assumption) rfl ?_))
    refine M.range_i (kt := 3) (et := 4) (by kernel_rfl) hm (fun w5 hit k5 s5 => ?_)
    have hrlt := hm.lt
    have hpred : ∀ y ∈ s, I64 y := fun y hy => hIf y ((hmem y).1 hy)
    refine M.loop_i (σ := List Int × List Int × Option Int) (fun t vals w' => ∃ vo, vals = [vo] ∧ IterO w' w2.heap.size w.heap.size (setKV s) t.1 t.2.2 ∧ GI w' (fun b => w2.heap.size < b) vo t.2.1 ∧ (∀ y, y ∈ t.2.1 ↔ (y ∈ s ∧ y ∉ t.1) ∧ 0 ≤ y ∧ notOf y ∉ s) ∧ (∀ y ∈ t.1, y ∈ s) ∧ t.2.1.Nodup ∧ t.2.1.length + t.1.length ≤ s.length ∧ Keep w w' No)
      (fun t => t.1.length) ((setKV s).map (·.1), [], none) ⟨_, rfl, hit, GI.nil _ _, fun y => by simp [setKV], by simp [setKV], by simp, by simp [setKV], k2.trans k5 (fun _ _ h => h)⟩ ?_
    rintro ⟨left, cs, last⟩ vals w6 K4 ⟨vo, rfl, hit, ho, hcs, hls, hcn, hcl, k6⟩ hK4 _
    simp only at hit ho hcs hls hcn hcl
    simp only [List.getD_cons_zero, List.getD_cons_succ]
    refine M.mapNext_i hit (by omega) (fun hleft => ?_) (fun x xv w7 hx hxv hit7 k7 s7 => ?_)
    · subst hleft
      refine M.extract_i rfl ?_
      (repeat (first | refine M.len_i ?_ | refine M.nilCheck_i ?_ | refine M.field_i ?_ | refine M.draw_i ?_ | refine M.cap_i ?_ | refine M.gd_tt ?_ | refine M.gd_ff ?_ | refine M.gd_ft ?_ | refine M.gd_tf ?_ | refine M.gd_u ?_ | refine M.pick_t ?_ | refine M.pick_f ?_ | refine M.not_t ?_ | refine M.not_f ?_ | refine M.cond_t ?_ | refine M.cond_f ?_ | refine M.eqNilP_tn ?_ | refine M.eqNilP_ts ?_ | refine M.eqNilP_fn ?_ | refine M.eqNilP_fs ?_ | refine M.eqNilS_tn ?_ | refine M.eqNilS_ts ?_ | refine M.eqNilS_fn ?_ | refine M.eqNilS_fs ?_ | refine M.lss_t (by omega) ?_ | refine M.lss_f (by omega) ?_ | refine M.leq_t (by omega) ?_ | refine M.leq_f (by omega) ?_ | refine M.gtr_t (by omega) ?_ | refine M.gtr_f (by omega) ?_ | refine M.geq_t (by omega) ?_ | refine M.geq_f (by omega) ?_ | refine M.eql_t (by omega) ?_ | refine M.eql_f (by omega) ?_ | refine M.neq_t (by omega) ?_ | refine M.neq_f (by omega) ?_ | refine M.add_i (by omega) (by omega) ?_ | refine M.sub_i (by omega) (by omega) ?_ | refine M.load_i (by assumption) ?_ | refine M.loadB_i (by assumption) rfl ?_ | refine M.st_i (by assumption) ?_ | refine M.stB_i (by assumption) rfl ?_ | refine M.gs_ff ?_ | refine M.gs_tt ?_ | refine M.gs_ft ?_ | refine M.gs_tf ?_ | refine M.stAll_i (by assumption) rfl ?_))
      refine M.call_i (sort_ret ho (by omega)) ?_; rintro _ w7 ⟨rfl, g7, k7⟩
      have e : cs.mergeSort leI = pureL l := by
        unfold pureL
        have hp := sort_le cs
        refine eq_srt ?_ (fun y => ?_)
        · have hn : (cs.mergeSort leI).Nodup := (List.mergeSort_perm cs leI).nodup_iff.2 hcn
          exact (hp.and hn).imp (fun {a b} h => by have := h.1; have := h.2; omega)
        · rw [List.mem_mergeSort, hcs, List.mem_filter]
          simp only [List.not_mem_nil, not_false_eq_true, and_true, Bool.and_eq_true, decide_eq_true_eq, Bool.not_eq_true', inB, decide_eq_false_iff_not, hmem]
      rw [e] at g7
      exact ⟨g7.mono (fun b hb h => by have := k2.size; omega), k6.trans k7 (fun b hb h => by have := k2.size; omega)⟩
    · refine M.extract_i rfl ?_
      (repeat (first | refine M.len_i ?_ | refine M.nilCheck_i ?_ | refine M.field_i ?_ | refine M.draw_i ?_ | refine M.cap_i ?_ | refine M.gd_tt ?_ | refine M.gd_ff ?_ | refine M.gd_ft ?_ | refine M.gd_tf ?_ | refine M.gd_u ?_ | refine M.pick_t ?_ | refine M.pick_f ?_ | refine M.not_t ?_ | refine M.not_f ?_ | refine M.cond_t ?_ | refine M.cond_f ?_ | refine M.eqNilP_tn ?_ | refine M.eqNilP_ts ?_ | refine M.eqNilP_fn ?_ | refine M.eqNilP_fs ?_ | refine M.eqNilS_tn ?_ | refine M.eqNilS_ts ?_ | refine M.eqNilS_fn ?_ | refine M.eqNilS_fs ?_ | refine M.lss_t (by omega) ?_ | refine M.lss_f (by omega) ?_ | refine M.leq_t (by omega) ?_ | refine M.leq_f (by omega) ?_ | refine M.gtr_t (by omega) ?_ | refine M.gtr_f (by omega) ?_ | refine M.geq_t (by omega) ?_ | refine M.geq_f (by omega) ?_ | refine M.eql_t (by omega) ?_ | refine M.eql_f (by omega) ?_ | refine M.neq_t (by omega) ?_ | refine M.neq_f (by omega) ?_ | refine M.add_i (by omega) (by omega) ?_ | refine M.sub_i (by omega) (by omega) ?_ | refine M.load_i (by assumption) ?_ | refine M.loadB_i (by assumption) rfl ?_ | refine M.st_i (by assumption) ?_ | refine M.stB_i (by assumption) rfl ?_ | refine M.gs_ff ?_ | refine M.gs_tt ?_ | refine M.gs_ft ?_ | refine M.gs_tf ?_ | refine M.stAll_i (by assumption) rfl ?_))
      have hxs := hls x hx
      have hflt : (left.filter (decide <| · ≠ x)).length < left.length := by
        have : ∀ (L : List Int), x ∈ L → (L.filter (decide <| · ≠ x)).length < L.length := by
          intro L
          induction L with
          | nil => intro h; simp at h
          | cons a L ih =>
            intro h
            simp only [List.filter_cons]
            have hle := List.length_filter_le (decide <| · ≠ x) L
            by_cases ha : a = x
            · rw [if_neg (by simpa using ha), List.length_cons]; omega
            · rw [if_pos (by simpa using ha)]
              have := ih (by rcases List.mem_cons.1 h with h | h; exact absurd h.symm ha; exact h)
              rw [List.length_cons, List.length_cons]; omega
        exact this left hx
      have q6 := k6.size
      have hitlt : w2.heap.size < w6.heap.size := by
        obtain ⟨_, _, _, _, _, _, _, g, _⟩ := hit
        exact lt_of_heap g
      have ho7 := ho.keep k7 (fun b hb h1 h2 => by omega)
      have k67 : Keep w w7 No := k6.trans k7 (fun b hb h => by have := k2.size; omega)
      refine M.share_j (fun vals w' => ∃ vo cs', vals = [vo] ∧ IterO w' w2.heap.size w.heap.size (setKV s) (left.filter (decide <| · ≠ x)) (some x) ∧ GI w' (fun b => w2.heap.size < b) vo cs' ∧ (∀ y, y ∈ cs' ↔ (y ∈ s ∧ y ∉ left.filter (decide <| · ≠ x)) ∧ 0 ≤ y ∧ notOf y ∉ s) ∧ cs'.Nodup ∧ cs'.length ≤ cs.length + 1 ∧ Keep w w' No) ?_ ?_
      · rintro vals w8 ⟨vo, cs', rfl, hit8, g8, h1, h2, h3, k8⟩ _
        simp only [List.getD_cons_zero, List.getD_cons_succ]
        exact hK4 (left.filter (decide <| · ≠ x), cs', some x) _ _ hflt ⟨vo, rfl, hit8, g8, h1, fun y hy => hls y (List.mem_filter.1 hy).1, h2, by show cs'.length + (left.filter (decide <| · ≠ x)).length ≤ s.length; omega, k8⟩
      · intro K5 hK5
        refine M.entry_i hit7 (fun xv' _ => ?_)
        refine M.extract_i rfl ?_
        have memF : ∀ y, y ∉ left.filter (decide <| · ≠ x) ↔ y ∉ left ∨ y = x := fun y => by
          rw [List.mem_filter]
          by_cases hyx : y = x <;> simp [hyx]
        have skip : (0 ≤ x → notOf x ∈ s) → ∀ y, y ∈ cs ↔ (y ∈ s ∧ y ∉ left.filter (decide <| · ≠ x)) ∧ 0 ≤ y ∧ notOf y ∉ s := fun hno y => by
          rw [hcs, memF]
          constructor
          · rintro ⟨⟨h1, h2⟩, h3⟩; exact ⟨⟨h1, .inl h2⟩, h3⟩
          · rintro ⟨⟨h1, h2 | h2⟩, h3⟩
            · exact ⟨⟨h1, h2⟩, h3⟩
            · subst h2; exact absurd (hno h3.1) h3.2
        by_cases hx0 : 0 ≤ x
        · (repeat (first | refine M.len_i ?_ | refine M.nilCheck_i ?_ | refine M.field_i ?_ | refine M.draw_i ?_ | refine M.cap_i ?_ | refine M.gd_tt ?_ | refine M.gd_ff ?_ | refine M.gd_ft ?_ | refine M.gd_tf ?_ | refine M.gd_u ?_ | refine M.pick_t ?_ | refine M.pick_f ?_ | refine M.not_t ?_ | refine M.not_f ?_ | refine M.cond_t ?_ | refine M.cond_f ?_ | refine M.eqNilP_tn ?_ | refine M.eqNilP_ts ?_ | refine M.eqNilP_fn ?_ | refine M.eqNilP_fs ?_ | refine M.eqNilS_tn ?_ | refine M.eqNilS_ts ?_ | refine M.eqNilS_fn ?_ | refine M.eqNilS_fs ?_ | refine M.lss_t (by omega) ?_ | refine M.lss_f (by omega) ?_ | refine M.leq_t (by omega) ?_ | refine M.leq_f (by omega) ?_ | refine M.gtr_t (by omega) ?_ | refine M.gtr_f (by omega) ?_ | refine M.geq_t (by omega) ?_ | refine M.geq_f (by omega) ?_ | refine M.eql_t (by omega) ?_ | refine M.eql_f (by omega) ?_ | refine M.neq_t (by omega) ?_ | refine M.neq_f (by omega) ?_ | refine M.add_i (by omega) (by omega) ?_ | refine M.sub_i (by omega) (by omega) ?_ | refine M.load_i (by assumption) ?_ | refine M.loadB_i (by assumption) rfl ?_ | refine M.st_i (by assumption) ?_ | refine M.stB_i (by assumption) rfl ?_ | refine M.gs_ff ?_ | refine M.gs_tt ?_ | refine M.gs_ft ?_ | refine M.gs_tf ?_ | refine M.stAll_i (by assumption) rfl ?_))
          refine M.call_i (not_ret (hpred x hxs) w7) ?_; rintro _ w8 ⟨rfl, k8⟩
          (repeat (first | refine M.len_i ?_ | refine M.nilCheck_i ?_ | refine M.field_i ?_ | refine M.draw_i ?_ | refine M.cap_i ?_ | refine M.gd_tt ?_ | refine M.gd_ff ?_ | refine M.gd_ft ?_ | refine M.gd_tf ?_ | refine M.gd_u ?_ | refine M.pick_t ?_ | refine M.pick_f ?_ | refine M.not_t ?_ | refine M.not_f ?_ | refine M.cond_t ?_ | refine M.cond_f ?_ | refine M.eqNilP_tn ?_ | refine M.eqNilP_ts ?_ | refine M.eqNilP_fn ?_ | refine M.eqNilP_fs ?_ | refine M.eqNilS_tn ?_ | refine M.eqNilS_ts ?_ | refine M.eqNilS_fn ?_ | refine M.eqNilS_fs ?_ | refine M.lss_t (by omega) ?_ | refine M.lss_f (by omega) ?_ | refine M.leq_t (by omega) ?_ | refine M.leq_f (by omega) ?_ | refine M.gtr_t (by omega) ?_ | refine M.gtr_f (by omega) ?_ | refine M.geq_t (by omega) ?_ | refine M.geq_f (by omega) ?_ | refine M.eql_t (by omega) ?_ | refine M.eql_f (by omega) ?_ | refine M.neq_t (by omega) ?_ | refine M.neq_f (by omega) ?_ | refine M.add_i (by omega) (by omega) ?_ | refine M.sub_i (by omega) (by omega) ?_ | refine M.load_i (by assumption) ?_ | refine M.loadB_i (by assumption) rfl ?_ | refine M.st_i (by assumption) ?_ | refine M.stB_i (by assumption) rfl ?_ | refine M.gs_ff ?_ | refine M.gs_tt ?_ | refine M.gs_ft ?_ | refine M.gs_tf ?_ | refine M.stAll_i (by assumption) rfl ?_))
          have hm8 := hit7.map.keep k8 (fun h => h)
          refine M.lookup_i (kt := 3) (et := 4) (z := vb false) (by kernel_rfl) (by kernel_rfl) zeroB hm8 ?_
          rw [lkp_set]
          (repeat (first | refine M.len_i ?_ | refine M.nilCheck_i ?_ | refine M.field_i ?_ | refine M.draw_i ?_ | refine M.cap_i ?_ | refine M.gd_tt ?_ | refine M.gd_ff ?_ | refine M.gd_ft ?_ | refine M.gd_tf ?_ | refine M.gd_u ?_ | refine M.pick_t ?_ | refine M.pick_f ?_ | refine M.not_t ?_ | refine M.not_f ?_ | refine M.cond_t ?_ | refine M.cond_f ?_ | refine M.eqNilP_tn ?_ | refine M.eqNilP_ts ?_ | refine M.eqNilP_fn ?_ | refine M.eqNilP_fs ?_ | refine M.eqNilS_tn ?_ | refine M.eqNilS_ts ?_ | refine M.eqNilS_fn ?_ | refine M.eqNilS_fs ?_ | refine M.lss_t (by omega) ?_ | refine M.lss_f (by omega) ?_ | refine M.leq_t (by omega) ?_ | refine M.leq_f (by omega) ?_ | refine M.gtr_t (by omega) ?_ | refine M.gtr_f (by omega) ?_ | refine M.geq_t (by omega) ?_ | refine M.geq_f (by omega) ?_ | refine M.eql_t (by omega) ?_ | refine M.eql_f (by omega) ?_ | refine M.neq_t (by omega) ?_ | refine M.neq_f (by omega) ?_ | refine M.add_i (by omega) (by omega) ?_ | refine M.sub_i (by omega) (by omega) ?_ | refine M.load_i (by assumption) ?_ | refine M.loadB_i (by assumption) rfl ?_ | refine M.st_i (by assumption) ?_ | refine M.stB_i (by assumption) rfl ?_ | refine M.gs_ff ?_ | refine M.gs_tt ?_ | refine M.gs_ft ?_ | refine M.gs_tf ?_ | refine M.stAll_i (by assumption) rfl ?_))
          refine M.not_i ?_
          have hit8 := hit7.keep k8 (fun h => h) (fun h => h)
          have ho8 := ho7.keep k8 (fun _ _ _ h => h)
          have k68 := k67.trans k8 (fun _ _ h => h)
          by_cases hns : notOf x ∈ s
          · rw [decide_eq_true hns]
            (repeat (first | refine M.len_i ?_ | refine M.nilCheck_i ?_ | refine M.field_i ?_ | refine M.draw_i ?_ | refine M.cap_i ?_ | refine M.gd_tt ?_ | refine M.gd_ff ?_ | refine M.gd_ft ?_ | refine M.gd_tf ?_ | refine M.gd_u ?_ | refine M.pick_t ?_ | refine M.pick_f ?_ | refine M.not_t ?_ | refine M.not_f ?_ | refine M.cond_t ?_ | refine M.cond_f ?_ | refine M.eqNilP_tn ?_ | refine M.eqNilP_ts ?_ | refine M.eqNilP_fn ?_ | refine M.eqNilP_fs ?_ | refine M.eqNilS_tn ?_ | refine M.eqNilS_ts ?_ | refine M.eqNilS_fn ?_ | refine M.eqNilS_fs ?_ | refine M.lss_t (by omega) ?_ | refine M.lss_f (by omega) ?_ | refine M.leq_t (by omega) ?_ | refine M.leq_f (by omega) ?_ | refine M.gtr_t (by omega) ?_ | refine M.gtr_f (by omega) ?_ | refine M.geq_t (by omega) ?_ | refine M.geq_f (by omega) ?_ | refine M.eql_t (by omega) ?_ | refine M.eql_f (by omega) ?_ | refine M.neq_t (by omega) ?_ | refine M.neq_f (by omega) ?_ | refine M.add_i (by omega) (by omega) ?_ | refine M.sub_i (by omega) (by omega) ?_ | refine M.load_i (by assumption) ?_ | refine M.loadB_i (by assumption) rfl ?_ | refine M.st_i (by assumption) ?_ | refine M.stB_i (by assumption) rfl ?_ | refine M.gs_ff ?_ | refine M.gs_tt ?_ | refine M.gs_ft ?_ | refine M.gs_tf ?_ | refine M.stAll_i (by assumption) rfl ?_))
            exact hK5 _ _ ⟨vo, cs, rfl, hit8, ho8, skip (fun _ => hns), hcn, by omega, k68⟩
          · rw [decide_eq_false hns]
            (repeat (first | refine M.len_i ?_ | refine M.nilCheck_i ?_ | refine M.field_i ?_ | refine M.draw_i ?_ | refine M.cap_i ?_ | refine M.gd_tt ?_ | refine M.gd_ff ?_ | refine M.gd_ft ?_ | refine M.gd_tf ?_ | refine M.gd_u ?_ | refine M.pick_t ?_ | refine M.pick_f ?_ | refine M.not_t ?_ | refine M.not_f ?_ | refine M.cond_t ?_ | refine M.cond_f ?_ | refine M.eqNilP_tn ?_ | refine M.eqNilP_ts ?_ | refine M.eqNilP_fn ?_ | refine M.eqNilP_fs ?_ | refine M.eqNilS_tn ?_ | refine M.eqNilS_ts ?_ | refine M.eqNilS_fn ?_ | refine M.eqNilS_fs ?_ | refine M.lss_t (by omega) ?_ | refine M.lss_f (by omega) ?_ | refine M.leq_t (by omega) ?_ | refine M.leq_f (by omega) ?_ | refine M.gtr_t (by omega) ?_ | refine M.gtr_f (by omega) ?_ | refine M.geq_t (by omega) ?_ | refine M.geq_f (by omega) ?_ | refine M.eql_t (by omega) ?_ | refine M.eql_f (by omega) ?_ | refine M.neq_t (by omega) ?_ | refine M.neq_f (by omega) ?_ | refine M.add_i (by omega) (by omega) ?_ | refine M.sub_i (by omega) (by omega) ?_ | refine M.load_i (by assumption) ?_ | refine M.loadB_i (by assumption) rfl ?_ | refine M.st_i (by assumption) ?_ | refine M.stB_i (by assumption) rfl ?_ | refine M.gs_ff ?_ | refine M.gs_tt ?_ | refine M.gs_ft ?_ | refine M.gs_tf ?_ | refine M.stAll_i (by assumption) rfl ?_))
            refine M.buildSlice_i [vi x] (by kernel_rfl) (fun w9 hn9 k9 s9 => ?_)
            have ho9 := ho8.keep k9 (fun _ _ _ h => h)
            have hit9 := hit8.keep k9 (fun h => h) (fun h => h)
            refine M.append1_i ho9 (Row.of_blk' (D := fun _ => True) hn9 trivial) rfl (by omega) (fun v10 w10 g10 k10 => ?_)
            have q7 := k7.size; have q8 := k8.size; have q9 := k9.size
            refine hK5 _ _ ⟨v10, cs ++ [x], rfl, hit9.keep k10 (fun h => by omega) (fun h => by have := k2.size; omega), g10.mono (fun b hb h => by omega), fun y => ?_, ?_, by simp, (k68.trans k9 (fun _ _ h => h)).trans k10 (fun b hb h => by have := k2.size; omega)⟩
            · rw [List.mem_append, List.mem_singleton, hcs, memF]
              constructor
              · rintro (⟨⟨h1, h2⟩, h3⟩ | h)
                · exact ⟨⟨h1, .inl h2⟩, h3⟩
                · subst h; exact ⟨⟨hxs, .inr rfl⟩, hx0, hns⟩
              · rintro ⟨⟨h1, h2 | h2⟩, h3⟩
                · exact .inl ⟨⟨h1, h2⟩, h3⟩
                · exact .inr h2
            · refine List.nodup_append.2 ⟨hcn, by simp, fun a ha b hb => ?_⟩
              simp at hb; subst hb
              intro e; subst e
              exact ((hcs _).1 ha).1.2 hx
        · (repeat (first | refine M.len_i ?_ | refine M.nilCheck_i ?_ | refine M.field_i ?_ | refine M.draw_i ?_ | refine M.cap_i ?_ | refine M.gd_tt ?_ | refine M.gd_ff ?_ | refine M.gd_ft ?_ | refine M.gd_tf ?_ | refine M.gd_u ?_ | refine M.pick_t ?_ | refine M.pick_f ?_ | refine M.not_t ?_ | refine M.not_f ?_ | refine M.cond_t ?_ | refine M.cond_f ?_ | refine M.eqNilP_tn ?_ | refine M.eqNilP_ts ?_ | refine M.eqNilP_fn ?_ | refine M.eqNilP_fs ?_ | refine M.eqNilS_tn ?_ | refine M.eqNilS_ts ?_ | refine M.eqNilS_fn ?_ | refine M.eqNilS_fs ?_ | refine M.lss_t (by omega) ?_ | refine M.lss_f (by omega) ?_ | refine M.leq_t (by omega) ?_ | refine M.leq_f (by omega) ?_ | refine M.gtr_t (by omega) ?_ | refine M.gtr_f (by omega) ?_ | refine M.geq_t (by omega) ?_ | refine M.geq_f (by omega) ?_ | refine M.eql_t (by omega) ?_ | refine M.eql_f (by omega) ?_ | refine M.neq_t (by omega) ?_ | refine M.neq_f (by omega) ?_ | refine M.add_i (by omega) (by omega) ?_ | refine M.sub_i (by omega) (by omega) ?_ | refine M.load_i (by assumption) ?_ | refine M.loadB_i (by assumption) rfl ?_ | refine M.st_i (by assumption) ?_ | refine M.stB_i (by assumption) rfl ?_ | refine M.gs_ff ?_ | refine M.gs_tt ?_ | refine M.gs_ft ?_ | refine M.gs_tf ?_ | refine M.stAll_i (by assumption) rfl ?_))
          exact hK5 _ _ ⟨vo, cs, rfl, hit7, ho7, skip (fun h => absurd h hx0), hcn, by omega, k67⟩
theorem occurs_ret {w : World} {D : Nat → Prop} {u : Value} {l : List (List Int)} (hl : LL w D u l) (hfl : l.length ≤ 1000000) (hfc : ∀ c ∈ l, Few c.length) (x : Int) :
    Ret Try.prog 69 #[u, vi x] w (fun r w' => r = .bool (inB l.flatten x) ∧ Keep w w' No) := by
  obtain ⟨A, cp, us, rfl, hlr, hcp⟩ := id hl
  refine ok69 _ _ _ _ ?_
  unfold sh69
  refine M.loop_i (σ := Nat) (fun i vals w' => vals = [vi i] ∧ i ≤ l.length ∧ (∀ c ∈ l.take i, x ∉ c) ∧ Keep w w' No) (fun i => l.length - i) 0 ⟨rfl, by omega, by simp, Keep.refl _ _⟩ ?_
  rintro i vals w1 K ⟨rfl, hi, hno, k1⟩ hK _
  simp only [List.getD_cons_zero, List.getD_cons_succ]
  by_cases hlt : i < l.length
  · obtain ⟨c, hc⟩ : ∃ c, l[i]? = some c := ⟨_, List.getElem?_eq_getElem hlt⟩
    have hcm := List.mem_of_getElem? hc
    (repeat (first | refine M.len_i ?_ | refine M.nilCheck_i ?_ | refine M.field_i ?_ | refine M.draw_i ?_ | refine M.cap_i ?_ | refine M.gd_tt ?_ | refine M.gd_ff ?_ | refine M.gd_ft ?_ | refine M.gd_tf ?_ | refine M.gd_u ?_ | refine M.pick_t ?_ | refine M.pick_f ?_ | refine M.not_t ?_ | refine M.not_f ?_ | refine M.cond_t ?_ | refine M.cond_f ?_ | refine M.eqNilP_tn ?_ | refine M.eqNilP_ts ?_ | refine M.eqNilP_fn ?_ | refine M.eqNilP_fs ?_ | refine M.eqNilS_tn ?_ | refine M.eqNilS_ts ?_ | refine M.eqNilS_fn ?_ | refine M.eqNilS_fs ?_ | refine M.lss_t (by omega) ?_ | refine M.lss_f (by omega) ?_ | refine M.leq_t (by omega) ?_ | refine M.leq_f (by omega) ?_ | refine M.gtr_t (by omega) ?_ | refine M.gtr_f (by omega) ?_ | refine M.geq_t (by omega) ?_ | refine M.geq_f (by omega) ?_ | refine M.eql_t (by omega) ?_ | refine M.eql_f (by omega) ?_ | refine M.neq_t (by omega) ?_ | refine M.neq_f (by omega) ?_ | refine M.add_i (by omega) (by omega) ?_ | refine M.sub_i (by omega) (by omega) ?_ | refine M.load_i (by assumption) ?_ | refine M.loadB_i (by assumption) rfl ?_ | refine M.st_i (by assumption) ?_ | refine M.stB_i (by assumption) rfl ?_ | refine M.gs_ff ?_ | refine M.gs_tt ?_ | refine M.gs_ft ?_ | refine M.gs_tf ?_ | refine M.stAll_i (by assumption) rfl ?_))
    refine M.idxLL_i (hlr.keep k1 (fun _ _ _ h => h)) rfl (by omega) (c := c) (by simpa using hc) (fun bb oo y hcell hy => ?_)
    (repeat (first | refine M.len_i ?_ | refine M.nilCheck_i ?_ | refine M.field_i ?_ | refine M.draw_i ?_ | refine M.cap_i ?_ | refine M.gd_tt ?_ | refine M.gd_ff ?_ | refine M.gd_ft ?_ | refine M.gd_tf ?_ | refine M.gd_u ?_ | refine M.pick_t ?_ | refine M.pick_f ?_ | refine M.not_t ?_ | refine M.not_f ?_ | refine M.cond_t ?_ | refine M.cond_f ?_ | refine M.eqNilP_tn ?_ | refine M.eqNilP_ts ?_ | refine M.eqNilP_fn ?_ | refine M.eqNilP_fs ?_ | refine M.eqNilS_tn ?_ | refine M.eqNilS_ts ?_ | refine M.eqNilS_fn ?_ | refine M.eqNilS_fs ?_ | refine M.lss_t (by omega) ?_ | refine M.lss_f (by omega) ?_ | refine M.leq_t (by omega) ?_ | refine M.leq_f (by omega) ?_ | refine M.gtr_t (by omega) ?_ | refine M.gtr_f (by omega) ?_ | refine M.geq_t (by omega) ?_ | refine M.geq_f (by omega) ?_ | refine M.eql_t (by omega) ?_ | refine M.eql_f (by omega) ?_ | refine M.neq_t (by omega) ?_ | refine M.neq_f (by omega) ?_ | refine M.add_i (by omega) (by omega) ?_ | refine M.sub_i (by omega) (by omega) ?_ | refine M.load_i (by assumption) ?_ | refine M.loadB_i (by assumption) rfl ?_ | refine M.st_i (by assumption) ?_ | refine M.stB_i (by assumption) rfl ?_ | refine M.gs_ff ?_ | refine M.gs_tt ?_ | refine M.gs_ft ?_ | refine M.gs_tf ?_ | refine M.stAll_i (by assumption) rfl ?_))
    refine M.call_i (has_ret hy (hfc c hcm) x) ?_; rintro _ w2 ⟨rfl, k2⟩
    refine M.cond_i (fun hx => ?_) (fun hx => ?_)
    · exact ⟨by rw [inB_iff.2 (List.mem_flatten.2 ⟨c, hcm, hx⟩)], k1.trans k2 (fun _ _ h => h)⟩
    · (repeat (first | refine M.len_i ?_ | refine M.nilCheck_i ?_ | refine M.field_i ?_ | refine M.draw_i ?_ | refine M.cap_i ?_ | refine M.gd_tt ?_ | refine M.gd_ff ?_ | refine M.gd_ft ?_ | refine M.gd_tf ?_ | refine M.gd_u ?_ | refine M.pick_t ?_ | refine M.pick_f ?_ | refine M.not_t ?_ | refine M.not_f ?_ | refine M.cond_t ?_ | refine M.cond_f ?_ | refine M.eqNilP_tn ?_ | refine M.eqNilP_ts ?_ | refine M.eqNilP_fn ?_ | refine M.eqNilP_fs ?_ | refine M.eqNilS_tn ?_ | refine M.eqNilS_ts ?_ | refine M.eqNilS_fn ?_ | refine M.eqNilS_fs ?_ | refine M.lss_t (by omega) ?_ | refine M.lss_f (by omega) ?_ | refine M.leq_t (by omega) ?_ | refine M.leq_f (by omega) ?_ | refine M.gtr_t (by omega) ?_ | refine M.gtr_f (by omega) ?_ | refine M.geq_t (by omega) ?_ | refine M.geq_f (by omega) ?_ | refine M.eql_t (by omega) ?_ | refine M.eql_f (by omega) ?_ | refine M.neq_t (by omega) ?_ | refine M.neq_f (by omega) ?_ | refine M.add_i (by omega) (by omega) ?_ | refine M.sub_i (by omega) (by omega) ?_ | refine M.load_i (by assumption) ?_ | refine M.loadB_i (by assumption) rfl ?_ | refine M.st_i (by assumption) ?_ | refine M.stB_i (by assumption) rfl ?_ | refine M.gs_ff ?_ | refine M.gs_tt ?_ | refine M.gs_ft ?_ | refine M.gs_tf ?_ | refine M.stAll_i (by assumption) rfl ?_))
      refine hK (i + 1) _ _ (by omega) ⟨by simp, by omega, fun d hd => ?_, k1.trans k2 (fun _ _ h => h)⟩
      rcases (mem_take_succ hc).1 hd with h | rfl
      · exact hno d h
      · exact hx
  · (repeat (first | refine M.len_i ?_ | refine M.nilCheck_i ?_ | refine M.field_i ?_ | refine M.draw_i ?_ | refine M.cap_i ?_ | refine M.gd_tt ?_ | refine M.gd_ff ?_ | refine M.gd_ft ?_ | refine M.gd_tf ?_ | refine M.gd_u ?_ | refine M.pick_t ?_ | refine M.pick_f ?_ | refine M.not_t ?_ | refine M.not_f ?_ | refine M.cond_t ?_ | refine M.cond_f ?_ | refine M.eqNilP_tn ?_ | refine M.eqNilP_ts ?_ | refine M.eqNilP_fn ?_ | refine M.eqNilP_fs ?_ | refine M.eqNilS_tn ?_ | refine M.eqNilS_ts ?_ | refine M.eqNilS_fn ?_ | refine M.eqNilS_fs ?_ | refine M.lss_t (by omega) ?_ | refine M.lss_f (by omega) ?_ | refine M.leq_t (by omega) ?_ | refine M.leq_f (by omega) ?_ | refine M.gtr_t (by omega) ?_ | refine M.gtr_f (by omega) ?_ | refine M.geq_t (by omega) ?_ | refine M.geq_f (by omega) ?_ | refine M.eql_t (by omega) ?_ | refine M.eql_f (by omega) ?_ | refine M.neq_t (by omega) ?_ | refine M.neq_f (by omega) ?_ | refine M.add_i (by omega) (by omega) ?_ | refine M.sub_i (by omega) (by omega) ?_ | refine M.load_i (by assumption) ?_ | refine M.loadB_i (by assumption) rfl ?_ | refine M.st_i (by assumption) ?_ | refine M.stB_i (by assumption) rfl ?_ | refine M.gs_ff ?_ | refine M.gs_tt ?_ | refine M.gs_ft ?_ | refine M.gs_tf ?_ | refine M.stAll_i (by assumption) rfl ?_))
    have : i = l.length := by omega
    subst this
    rw [List.take_length] at hno
    refine ⟨?_, k1⟩
    have : inB l.flatten x = false := by
      rw [Bool.eq_false_iff]
      intro h
      obtain ⟨c, h1, h2⟩ := List.mem_flatten.1 (inB_iff.1 h)
      exact hno c h1 h2
    rw [this]
def pureF (l : List (List Int)) (ys : List Int) : List Int := ys.filter (fun x => decide (0 ≤ x) && !inB l.flatten (notOf x))
theorem pureF_snoc (l : List (List Int)) (ys : List Int) (x : Int) : pureF l (ys ++ [x]) = pureF l ys ++ if 0 ≤ x ∧ inB l.flatten (notOf x) = false then [x] else [] := by
  unfold pureF
  rw [List.filter_append]
  congr 1
  by_cases h : 0 ≤ x
  · cases h2 : inB l.flatten (notOf x) <;> simp [h, h2]
  · simp [h]
set_option maxHeartbeats 1000000 in
theorem rpure_ret {w : World} {D : Nat → Prop} {u : Value} {l : List (List Int)} (hl : LL w D u l) (hfl : l.length ≤ 1000000) (hft : l.flatten.length ≤ 100000000) (hI : ∀ c ∈ l, ∀ x ∈ c, I64 x) :
    Ret Try.prog 35 #[u] w (fun r w' => GI w' (w.heap.size ≤ ·) r (pureL l) ∧ Keep w w' No) := by
  obtain ⟨A, cp, us, rfl, hlr, hcp⟩ := id hl
  have hfc : ∀ c ∈ l, Few c.length := fun c hc => by
    have : c.length ≤ l.flatten.length := List.Sublist.length_le (List.sublist_flatten_of_mem hc)
    omega
  refine ok35 _ _ _ ?_
  unfold sh35
  refine M.loop_i (σ := Nat) (fun i vals w' => ∃ vo, vals = [vo, vi i] ∧ i ≤ l.length ∧ GI w' (w.heap.size ≤ ·) vo (pureF l (l.take i).flatten) ∧ Keep w w' No) (fun i => l.length - i) 0
    ⟨_, rfl, by omega, by simpa [pureF] using GI.nil _ _, Keep.refl _ _⟩ ?_
  rintro i vals w1 K ⟨vo, rfl, hi, go, k1⟩ hK _
  simp only [List.getD_cons_zero, List.getD_cons_succ]
  by_cases hlt : i < l.length
  · obtain ⟨c, hc⟩ : ∃ c, l[i]? = some c := ⟨_, List.getElem?_eq_getElem hlt⟩
    have hcm := List.mem_of_getElem? hc
    have hcl := flatten_take_c hc
    (repeat (first | refine M.len_i ?_ | refine M.nilCheck_i ?_ | refine M.field_i ?_ | refine M.draw_i ?_ | refine M.cap_i ?_ | refine M.gd_tt ?_ | refine M.gd_ff ?_ | refine M.gd_ft ?_ | refine M.gd_tf ?_ | refine M.gd_u ?_ | refine M.pick_t ?_ | refine M.pick_f ?_ | refine M.not_t ?_ | refine M.not_f ?_ | refine M.cond_t ?_ | refine M.cond_f ?_ | refine M.eqNilP_tn ?_ | refine M.eqNilP_ts ?_ | refine M.eqNilP_fn ?_ | refine M.eqNilP_fs ?_ | refine M.eqNilS_tn ?_ | refine M.eqNilS_ts ?_ | refine M.eqNilS_fn ?_ | refine M.eqNilS_fs ?_ | refine M.lss_t (by omega) ?_ | refine M.lss_f (by omega) ?_ | refine M.leq_t (by omega) ?_ | refine M.leq_f (by omega) ?_ | refine M.gtr_t (by omega) ?_ | refine M.gtr_f (by omega) ?_ | refine M.geq_t (by omega) ?_ | refine M.geq_f (by omega) ?_ | refine M.eql_t (by omega) ?_ | refine M.eql_f (by omega) ?_ | refine M.neq_t (by omega) ?_ | refine M.neq_f (by omega) ?_ | refine M.add_i (by omega) (by omega) ?_ | refine M.sub_i (by omega) (by omega) ?_ | refine M.load_i (by assumption) ?_ | refine M.loadB_i (by assumption) rfl ?_ | refine M.st_i (by assumption) ?_ | refine M.stB_i (by assumption) rfl ?_ | refine M.gs_ff ?_ | refine M.gs_tt ?_ | refine M.gs_ft ?_ | refine M.gs_tf ?_ | refine M.stAll_i (by assumption) rfl ?_))
    refine M.loop_i (σ := Nat) (fun j vals w' => ∃ vo, vals = [vo, vi j] ∧ j ≤ c.length ∧ GI w' (w.heap.size ≤ ·) vo (pureF l ((l.take i).flatten ++ c.take j)) ∧ Keep w w' No) (fun j => c.length - j) 0
      ⟨_, rfl, by omega, by simpa using go, k1⟩ ?_
    rintro j vals w2 K2 ⟨vo, rfl, hj, go, k2⟩ hK2 _
    simp only [List.getD_cons_zero, List.getD_cons_succ]
    have hl2 := hlr.keep k2 (fun _ _ _ h => h)
    refine M.idxLL_i hl2 rfl (by omega) (c := c) (by simpa using hc) (fun bb oo y hcell hy => ?_)
    obtain ⟨A2, c2, rfl, hr2, _⟩ := id hy
    (repeat (first | refine M.len_i ?_ | refine M.nilCheck_i ?_ | refine M.field_i ?_ | refine M.draw_i ?_ | refine M.cap_i ?_ | refine M.gd_tt ?_ | refine M.gd_ff ?_ | refine M.gd_ft ?_ | refine M.gd_tf ?_ | refine M.gd_u ?_ | refine M.pick_t ?_ | refine M.pick_f ?_ | refine M.not_t ?_ | refine M.not_f ?_ | refine M.cond_t ?_ | refine M.cond_f ?_ | refine M.eqNilP_tn ?_ | refine M.eqNilP_ts ?_ | refine M.eqNilP_fn ?_ | refine M.eqNilP_fs ?_ | refine M.eqNilS_tn ?_ | refine M.eqNilS_ts ?_ | refine M.eqNilS_fn ?_ | refine M.eqNilS_fs ?_ | refine M.lss_t (by omega) ?_ | refine M.lss_f (by omega) ?_ | refine M.leq_t (by omega) ?_ | refine M.leq_f (by omega) ?_ | refine M.gtr_t (by omega) ?_ | refine M.gtr_f (by omega) ?_ | refine M.geq_t (by omega) ?_ | refine M.geq_f (by omega) ?_ | refine M.eql_t (by omega) ?_ | refine M.eql_f (by omega) ?_ | refine M.neq_t (by omega) ?_ | refine M.neq_f (by omega) ?_ | refine M.add_i (by omega) (by omega) ?_ | refine M.sub_i (by omega) (by omega) ?_ | refine M.load_i (by assumption) ?_ | refine M.loadB_i (by assumption) rfl ?_ | refine M.st_i (by assumption) ?_ | refine M.stB_i (by assumption) rfl ?_ | refine M.gs_ff ?_ | refine M.gs_tt ?_ | refine M.gs_ft ?_ | refine M.gs_tf ?_ | refine M.stAll_i (by assumption) rfl ?_))
    by_cases hjl : j < c.length
    · obtain ⟨x, hx⟩ : ∃ x, c[j]? = some x := ⟨_, List.getElem?_eq_getElem hjl⟩
      have e1 := pureF_snoc l ((l.take i).flatten ++ c.take j) x
      rw [List.append_assoc, ← take_snoc hx] at e1
      have hle : (pureF l ((l.take i).flatten ++ c.take j)).length ≤ 100000000 := by
        refine Nat.le_trans (List.length_filter_le _ _) ?_
        rw [List.length_append, List.length_take]; omega
      (repeat (first | refine M.len_i ?_ | refine M.nilCheck_i ?_ | refine M.field_i ?_ | refine M.draw_i ?_ | refine M.cap_i ?_ | refine M.gd_tt ?_ | refine M.gd_ff ?_ | refine M.gd_ft ?_ | refine M.gd_tf ?_ | refine M.gd_u ?_ | refine M.pick_t ?_ | refine M.pick_f ?_ | refine M.not_t ?_ | refine M.not_f ?_ | refine M.cond_t ?_ | refine M.cond_f ?_ | refine M.eqNilP_tn ?_ | refine M.eqNilP_ts ?_ | refine M.eqNilP_fn ?_ | refine M.eqNilP_fs ?_ | refine M.eqNilS_tn ?_ | refine M.eqNilS_ts ?_ | refine M.eqNilS_fn ?_ | refine M.eqNilS_fs ?_ | refine M.lss_t (by omega) ?_ | refine M.lss_f (by omega) ?_ | refine M.leq_t (by omega) ?_ | refine M.leq_f (by omega) ?_ | refine M.gtr_t (by omega) ?_ | refine M.gtr_f (by omega) ?_ | refine M.geq_t (by omega) ?_ | refine M.geq_f (by omega) ?_ | refine M.eql_t (by omega) ?_ | refine M.eql_f (by omega) ?_ | refine M.neq_t (by omega) ?_ | refine M.neq_f (by omega) ?_ | refine M.add_i (by omega) (by omega) ?_ | refine M.sub_i (by omega) (by omega) ?_ | refine M.load_i (by assumption) ?_ | refine M.loadB_i (by assumption) rfl ?_ | refine M.st_i (by assumption) ?_ | refine M.stB_i (by assumption) rfl ?_ | refine M.gs_ff ?_ | refine M.gs_tt ?_ | refine M.gs_ft ?_ | refine M.gs_tf ?_ | refine M.stAll_i (by assumption) rfl ?_))
      refine M.share_j (fun vals w' => ∃ vo, vals = [vo] ∧ GI w' (w.heap.size ≤ ·) vo (pureF l ((l.take i).flatten ++ c.take (j + 1))) ∧ Keep w w' No) ?_ ?_
      · rintro vals w3 ⟨vo, rfl, g3, k3⟩ _
        simp only [List.getD_cons_zero, List.getD_cons_succ]
        (repeat (first | refine M.len_i ?_ | refine M.nilCheck_i ?_ | refine M.field_i ?_ | refine M.draw_i ?_ | refine M.cap_i ?_ | refine M.gd_tt ?_ | refine M.gd_ff ?_ | refine M.gd_ft ?_ | refine M.gd_tf ?_ | refine M.gd_u ?_ | refine M.pick_t ?_ | refine M.pick_f ?_ | refine M.not_t ?_ | refine M.not_f ?_ | refine M.cond_t ?_ | refine M.cond_f ?_ | refine M.eqNilP_tn ?_ | refine M.eqNilP_ts ?_ | refine M.eqNilP_fn ?_ | refine M.eqNilP_fs ?_ | refine M.eqNilS_tn ?_ | refine M.eqNilS_ts ?_ | refine M.eqNilS_fn ?_ | refine M.eqNilS_fs ?_ | refine M.lss_t (by omega) ?_ | refine M.lss_f (by omega) ?_ | refine M.leq_t (by omega) ?_ | refine M.leq_f (by omega) ?_ | refine M.gtr_t (by omega) ?_ | refine M.gtr_f (by omega) ?_ | refine M.geq_t (by omega) ?_ | refine M.geq_f (by omega) ?_ | refine M.eql_t (by omega) ?_ | refine M.eql_f (by omega) ?_ | refine M.neq_t (by omega) ?_ | refine M.neq_f (by omega) ?_ | refine M.add_i (by omega) (by omega) ?_ | refine M.sub_i (by omega) (by omega) ?_ | refine M.load_i (by assumption) ?_ | refine M.loadB_i (by assumption) rfl ?_ | refine M.st_i (by assumption) ?_ | refine M.stB_i (by assumption) rfl ?_ | refine M.gs_ff ?_ | refine M.gs_tt ?_ | refine M.gs_ft ?_ | refine M.gs_tf ?_ | refine M.stAll_i (by assumption) rfl ?_))
        exact hK2 (j + 1) _ _ (by omega) ⟨vo, by simp, by omega, g3, k3⟩
      · intro K3 hK3
        refine M.idxLL_i hl2 rfl (by omega) (c := c) (by simpa using hc) (fun b9 o9 y9 hcell9 hy9 => ?_)
        obtain ⟨A9, c9, rfl, hr9, _⟩ := id hy9
        (repeat (first | refine M.len_i ?_ | refine M.nilCheck_i ?_ | refine M.field_i ?_ | refine M.draw_i ?_ | refine M.cap_i ?_ | refine M.gd_tt ?_ | refine M.gd_ff ?_ | refine M.gd_ft ?_ | refine M.gd_tf ?_ | refine M.gd_u ?_ | refine M.pick_t ?_ | refine M.pick_f ?_ | refine M.not_t ?_ | refine M.not_f ?_ | refine M.cond_t ?_ | refine M.cond_f ?_ | refine M.eqNilP_tn ?_ | refine M.eqNilP_ts ?_ | refine M.eqNilP_fn ?_ | refine M.eqNilP_fs ?_ | refine M.eqNilS_tn ?_ | refine M.eqNilS_ts ?_ | refine M.eqNilS_fn ?_ | refine M.eqNilS_fs ?_ | refine M.lss_t (by omega) ?_ | refine M.lss_f (by omega) ?_ | refine M.leq_t (by omega) ?_ | refine M.leq_f (by omega) ?_ | refine M.gtr_t (by omega) ?_ | refine M.gtr_f (by omega) ?_ | refine M.geq_t (by omega) ?_ | refine M.geq_f (by omega) ?_ | refine M.eql_t (by omega) ?_ | refine M.eql_f (by omega) ?_ | refine M.neq_t (by omega) ?_ | refine M.neq_f (by omega) ?_ | refine M.add_i (by omega) (by omega) ?_ | refine M.sub_i (by omega) (by omega) ?_ | refine M.load_i (by assumption) ?_ | refine M.loadB_i (by assumption) rfl ?_ | refine M.st_i (by assumption) ?_ | refine M.stB_i (by assumption) rfl ?_ | refine M.gs_ff ?_ | refine M.gs_tt ?_ | refine M.gs_ft ?_ | refine M.gs_tf ?_ | refine M.stAll_i (by assumption) rfl ?_))
        refine M.idxLV_i hr9 rfl (by omega) (by omega) (x := x) (by simpa using hx) (fun bb oo hA hcc => ?_)
        (repeat (first | refine M.len_i ?_ | refine M.nilCheck_i ?_ | refine M.field_i ?_ | refine M.draw_i ?_ | refine M.cap_i ?_ | refine M.gd_tt ?_ | refine M.gd_ff ?_ | refine M.gd_ft ?_ | refine M.gd_tf ?_ | refine M.gd_u ?_ | refine M.pick_t ?_ | refine M.pick_f ?_ | refine M.not_t ?_ | refine M.not_f ?_ | refine M.cond_t ?_ | refine M.cond_f ?_ | refine M.eqNilP_tn ?_ | refine M.eqNilP_ts ?_ | refine M.eqNilP_fn ?_ | refine M.eqNilP_fs ?_ | refine M.eqNilS_tn ?_ | refine M.eqNilS_ts ?_ | refine M.eqNilS_fn ?_ | refine M.eqNilS_fs ?_ | refine M.lss_t (by omega) ?_ | refine M.lss_f (by omega) ?_ | refine M.leq_t (by omega) ?_ | refine M.leq_f (by omega) ?_ | refine M.gtr_t (by omega) ?_ | refine M.gtr_f (by omega) ?_ | refine M.geq_t (by omega) ?_ | refine M.geq_f (by omega) ?_ | refine M.eql_t (by omega) ?_ | refine M.eql_f (by omega) ?_ | refine M.neq_t (by omega) ?_ | refine M.neq_f (by omega) ?_ | refine M.add_i (by omega) (by omega) ?_ | refine M.sub_i (by omega) (by omega) ?_ | refine M.load_i (by assumption) ?_ | refine M.loadB_i (by assumption) rfl ?_ | refine M.st_i (by assumption) ?_ | refine M.stB_i (by assumption) rfl ?_ | refine M.gs_ff ?_ | refine M.gs_tt ?_ | refine M.gs_ft ?_ | refine M.gs_tf ?_ | refine M.stAll_i (by assumption) rfl ?_))
        by_cases hx0 : 0 ≤ x
        · (repeat (first | refine M.len_i ?_ | refine M.nilCheck_i ?_ | refine M.field_i ?_ | refine M.draw_i ?_ | refine M.cap_i ?_ | refine M.gd_tt ?_ | refine M.gd_ff ?_ | refine M.gd_ft ?_ | refine M.gd_tf ?_ | refine M.gd_u ?_ | refine M.pick_t ?_ | refine M.pick_f ?_ | refine M.not_t ?_ | refine M.not_f ?_ | refine M.cond_t ?_ | refine M.cond_f ?_ | refine M.eqNilP_tn ?_ | refine M.eqNilP_ts ?_ | refine M.eqNilP_fn ?_ | refine M.eqNilP_fs ?_ | refine M.eqNilS_tn ?_ | refine M.eqNilS_ts ?_ | refine M.eqNilS_fn ?_ | refine M.eqNilS_fs ?_ | refine M.lss_t (by omega) ?_ | refine M.lss_f (by omega) ?_ | refine M.leq_t (by omega) ?_ | refine M.leq_f (by omega) ?_ | refine M.gtr_t (by omega) ?_ | refine M.gtr_f (by omega) ?_ | refine M.geq_t (by omega) ?_ | refine M.geq_f (by omega) ?_ | refine M.eql_t (by omega) ?_ | refine M.eql_f (by omega) ?_ | refine M.neq_t (by omega) ?_ | refine M.neq_f (by omega) ?_ | refine M.add_i (by omega) (by omega) ?_ | refine M.sub_i (by omega) (by omega) ?_ | refine M.load_i (by assumption) ?_ | refine M.loadB_i (by assumption) rfl ?_ | refine M.st_i (by assumption) ?_ | refine M.stB_i (by assumption) rfl ?_ | refine M.gs_ff ?_ | refine M.gs_tt ?_ | refine M.gs_ft ?_ | refine M.gs_tf ?_ | refine M.stAll_i (by assumption) rfl ?_))
          refine M.call_i (rnot_ret (hI c hcm x (List.mem_of_getElem? hx)) w2) ?_; rintro _ w3 ⟨rfl, k3⟩
          (repeat (first | refine M.len_i ?_ | refine M.nilCheck_i ?_ | refine M.field_i ?_ | refine M.draw_i ?_ | refine M.cap_i ?_ | refine M.gd_tt ?_ | refine M.gd_ff ?_ | refine M.gd_ft ?_ | refine M.gd_tf ?_ | refine M.gd_u ?_ | refine M.pick_t ?_ | refine M.pick_f ?_ | refine M.not_t ?_ | refine M.not_f ?_ | refine M.cond_t ?_ | refine M.cond_f ?_ | refine M.eqNilP_tn ?_ | refine M.eqNilP_ts ?_ | refine M.eqNilP_fn ?_ | refine M.eqNilP_fs ?_ | refine M.eqNilS_tn ?_ | refine M.eqNilS_ts ?_ | refine M.eqNilS_fn ?_ | refine M.eqNilS_fs ?_ | refine M.lss_t (by omega) ?_ | refine M.lss_f (by omega) ?_ | refine M.leq_t (by omega) ?_ | refine M.leq_f (by omega) ?_ | refine M.gtr_t (by omega) ?_ | refine M.gtr_f (by omega) ?_ | refine M.geq_t (by omega) ?_ | refine M.geq_f (by omega) ?_ | refine M.eql_t (by omega) ?_ | refine M.eql_f (by omega) ?_ | refine M.neq_t (by omega) ?_ | refine M.neq_f (by omega) ?_ | refine M.add_i (by omega) (by omega) ?_ | refine M.sub_i (by omega) (by omega) ?_ | refine M.load_i (by assumption) ?_ | refine M.loadB_i (by assumption) rfl ?_ | refine M.st_i (by assumption) ?_ | refine M.stB_i (by assumption) rfl ?_ | refine M.gs_ff ?_ | refine M.gs_tt ?_ | refine M.gs_ft ?_ | refine M.gs_tf ?_ | refine M.stAll_i (by assumption) rfl ?_))
          have k03 := k2.trans k3 (fun _ _ h => h)
          refine M.call_i (occurs_ret (hl.keep k03 (fun _ _ _ h => h)) hfl hfc (notOf x)) ?_; rintro _ w4 ⟨rfl, k4⟩
          (repeat (first | refine M.len_i ?_ | refine M.nilCheck_i ?_ | refine M.field_i ?_ | refine M.draw_i ?_ | refine M.cap_i ?_ | refine M.gd_tt ?_ | refine M.gd_ff ?_ | refine M.gd_ft ?_ | refine M.gd_tf ?_ | refine M.gd_u ?_ | refine M.pick_t ?_ | refine M.pick_f ?_ | refine M.not_t ?_ | refine M.not_f ?_ | refine M.cond_t ?_ | refine M.cond_f ?_ | refine M.eqNilP_tn ?_ | refine M.eqNilP_ts ?_ | refine M.eqNilP_fn ?_ | refine M.eqNilP_fs ?_ | refine M.eqNilS_tn ?_ | refine M.eqNilS_ts ?_ | refine M.eqNilS_fn ?_ | refine M.eqNilS_fs ?_ | refine M.lss_t (by omega) ?_ | refine M.lss_f (by omega) ?_ | refine M.leq_t (by omega) ?_ | refine M.leq_f (by omega) ?_ | refine M.gtr_t (by omega) ?_ | refine M.gtr_f (by omega) ?_ | refine M.geq_t (by omega) ?_ | refine M.geq_f (by omega) ?_ | refine M.eql_t (by omega) ?_ | refine M.eql_f (by omega) ?_ | refine M.neq_t (by omega) ?_ | refine M.neq_f (by omega) ?_ | refine M.add_i (by omega) (by omega) ?_ | refine M.sub_i (by omega) (by omega) ?_ | refine M.load_i (by assumption) ?_ | refine M.loadB_i (by assumption) rfl ?_ | refine M.st_i (by assumption) ?_ | refine M.stB_i (by assumption) rfl ?_ | refine M.gs_ff ?_ | refine M.gs_tt ?_ | refine M.gs_ft ?_ | refine M.gs_tf ?_ | refine M.stAll_i (by assumption) rfl ?_))
          refine M.not_i ?_
          have k04 := k03.trans k4 (fun _ _ h => h)
          have go4 := (go.keep k3 (fun _ _ _ h => h)).keep k4 (fun _ _ _ h => h)
          cases hb : inB l.flatten (notOf x) with
          | true =>
            rw [if_neg (by simp [hb]), List.append_nil] at e1
            (repeat (first | refine M.len_i ?_ | refine M.nilCheck_i ?_ | refine M.field_i ?_ | refine M.draw_i ?_ | refine M.cap_i ?_ | refine M.gd_tt ?_ | refine M.gd_ff ?_ | refine M.gd_ft ?_ | refine M.gd_tf ?_ | refine M.gd_u ?_ | refine M.pick_t ?_ | refine M.pick_f ?_ | refine M.not_t ?_ | refine M.not_f ?_ | refine M.cond_t ?_ | refine M.cond_f ?_ | refine M.eqNilP_tn ?_ | refine M.eqNilP_ts ?_ | refine M.eqNilP_fn ?_ | refine M.eqNilP_fs ?_ | refine M.eqNilS_tn ?_ | refine M.eqNilS_ts ?_ | refine M.eqNilS_fn ?_ | refine M.eqNilS_fs ?_ | refine M.lss_t (by omega) ?_ | refine M.lss_f (by omega) ?_ | refine M.leq_t (by omega) ?_ | refine M.leq_f (by omega) ?_ | refine M.gtr_t (by omega) ?_ | refine M.gtr_f (by omega) ?_ | refine M.geq_t (by omega) ?_ | refine M.geq_f (by omega) ?_ | refine M.eql_t (by omega) ?_ | refine M.eql_f (by omega) ?_ | refine M.neq_t (by omega) ?_ | refine M.neq_f (by omega) ?_ | refine M.add_i (by omega) (by omega) ?_ | refine M.sub_i (by omega) (by omega) ?_ | refine M.load_i (by assumption) ?_ | refine M.loadB_i (by assumption) rfl ?_ | refine M.st_i (by assumption) ?_ | refine M.stB_i (by assumption) rfl ?_ | refine M.gs_ff ?_ | refine M.gs_tt ?_ | refine M.gs_ft ?_ | refine M.gs_tf ?_ | refine M.stAll_i (by assumption) rfl ?_))
            exact hK3 _ _ ⟨vo, rfl, e1 ▸ go4, k04⟩
          | false =>
            rw [if_pos ⟨hx0, hb⟩] at e1
            (repeat (first | refine M.len_i ?_ | refine M.nilCheck_i ?_ | refine M.field_i ?_ | refine M.draw_i ?_ | refine M.cap_i ?_ | refine M.gd_tt ?_ | refine M.gd_ff ?_ | refine M.gd_ft ?_ | refine M.gd_tf ?_ | refine M.gd_u ?_ | refine M.pick_t ?_ | refine M.pick_f ?_ | refine M.not_t ?_ | refine M.not_f ?_ | refine M.cond_t ?_ | refine M.cond_f ?_ | refine M.eqNilP_tn ?_ | refine M.eqNilP_ts ?_ | refine M.eqNilP_fn ?_ | refine M.eqNilP_fs ?_ | refine M.eqNilS_tn ?_ | refine M.eqNilS_ts ?_ | refine M.eqNilS_fn ?_ | refine M.eqNilS_fs ?_ | refine M.lss_t (by omega) ?_ | refine M.lss_f (by omega) ?_ | refine M.leq_t (by omega) ?_ | refine M.leq_f (by omega) ?_ | refine M.gtr_t (by omega) ?_ | refine M.gtr_f (by omega) ?_ | refine M.geq_t (by omega) ?_ | refine M.geq_f (by omega) ?_ | refine M.eql_t (by omega) ?_ | refine M.eql_f (by omega) ?_ | refine M.neq_t (by omega) ?_ | refine M.neq_f (by omega) ?_ | refine M.add_i (by omega) (by omega) ?_ | refine M.sub_i (by omega) (by omega) ?_ | refine M.load_i (by assumption) ?_ | refine M.loadB_i (by assumption) rfl ?_ | refine M.st_i (by assumption) ?_ | refine M.stB_i (by assumption) rfl ?_ | refine M.gs_ff ?_ | refine M.gs_tt ?_ | refine M.gs_ft ?_ | refine M.gs_tf ?_ | refine M.stAll_i (by assumption) rfl ?_))
            refine M.buildSlice_i [vi x] (by kernel_rfl) (fun w5 b5 k5 s5 => ?_)
            refine M.append1_i (go4.keep k5 (fun _ _ _ h => h)) (Row.of_blk' (D := fun _ => True) b5 trivial) rfl (by omega) (fun v6 w6 g6 k6 => ?_)
            have q4 := k04.size; have q5 := k5.size
            refine hK3 _ _ ⟨v6, rfl, ?_, (k04.trans k5 (fun _ _ h => h)).trans k6 (fun b hb h => by omega)⟩
            rw [e1]
            exact g6.mono (fun b hb h => by omega)
        · rw [if_neg (by simp [hx0]), List.append_nil] at e1
          (repeat (first | refine M.len_i ?_ | refine M.nilCheck_i ?_ | refine M.field_i ?_ | refine M.draw_i ?_ | refine M.cap_i ?_ | refine M.gd_tt ?_ | refine M.gd_ff ?_ | refine M.gd_ft ?_ | refine M.gd_tf ?_ | refine M.gd_u ?_ | refine M.pick_t ?_ | refine M.pick_f ?_ | refine M.not_t ?_ | refine M.not_f ?_ | refine M.cond_t ?_ | refine M.cond_f ?_ | refine M.eqNilP_tn ?_ | refine M.eqNilP_ts ?_ | refine M.eqNilP_fn ?_ | refine M.eqNilP_fs ?_ | refine M.eqNilS_tn ?_ | refine M.eqNilS_ts ?_ | refine M.eqNilS_fn ?_ | refine M.eqNilS_fs ?_ | refine M.lss_t (by omega) ?_ | refine M.lss_f (by omega) ?_ | refine M.leq_t (by omega) ?_ | refine M.leq_f (by omega) ?_ | refine M.gtr_t (by omega) ?_ | refine M.gtr_f (by omega) ?_ | refine M.geq_t (by omega) ?_ | refine M.geq_f (by omega) ?_ | refine M.eql_t (by omega) ?_ | refine M.eql_f (by omega) ?_ | refine M.neq_t (by omega) ?_ | refine M.neq_f (by omega) ?_ | refine M.add_i (by omega) (by omega) ?_ | refine M.sub_i (by omega) (by omega) ?_ | refine M.load_i (by assumption) ?_ | refine M.loadB_i (by assumption) rfl ?_ | refine M.st_i (by assumption) ?_ | refine M.stB_i (by assumption) rfl ?_ | refine M.gs_ff ?_ | refine M.gs_tt ?_ | refine M.gs_ft ?_ | refine M.gs_tf ?_ | refine M.stAll_i (by assumption) rfl ?_))
          exact hK3 _ _ ⟨vo, rfl, e1 ▸ go, k2⟩
    · (repeat (first | refine M.len_i ?_ | refine M.nilCheck_i ?_ | refine M.field_i ?_ | refine M.draw_i ?_ | refine M.cap_i ?_ | refine M.gd_tt ?_ | refine M.gd_ff ?_ | refine M.gd_ft ?_ | refine M.gd_tf ?_ | refine M.gd_u ?_ | refine M.pick_t ?_ | refine M.pick_f ?_ | refine M.not_t ?_ | refine M.not_f ?_ | refine M.cond_t ?_ | refine M.cond_f ?_ | refine M.eqNilP_tn ?_ | refine M.eqNilP_ts ?_ | refine M.eqNilP_fn ?_ | refine M.eqNilP_fs ?_ | refine M.eqNilS_tn ?_ | refine M.eqNilS_ts ?_ | refine M.eqNilS_fn ?_ | refine M.eqNilS_fs ?_ | refine M.lss_t (by omega) ?_ | refine M.lss_f (by omega) ?_ | refine M.leq_t (by omega) ?_ | refine M.leq_f (by omega) ?_ | refine M.gtr_t (by omega) ?_ | refine M.gtr_f (by omega) ?_ | refine M.geq_t (by omega) ?_ | refine M.geq_f (by omega) ?_ | refine M.eql_t (by omega) ?_ | refine M.eql_f (by omega) ?_ | refine M.neq_t (by omega) ?_ | refine M.neq_f (by omega) ?_ | refine M.add_i (by omega) (by omega) ?_ | refine M.sub_i (by omega) (by omega) ?_ | refine M.load_i (by assumption) ?_ | refine M.loadB_i (by assumption) rfl ?_ | refine M.st_i (by assumption) ?_ | refine M.stB_i (by assumption) rfl ?_ | refine M.gs_ff ?_ | refine M.gs_tt ?_ | refine M.gs_ft ?_ | refine M.gs_tf ?_ | refine M.stAll_i (by assumption) rfl ?_))
      have : j = c.length := by omega
      subst this
      rw [List.take_length, ← flatten_snoc hc] at go
      exact hK (i + 1) _ _ (by omega) ⟨vo, by simp, by omega, go, k2⟩
  · (repeat (first | refine M.len_i ?_ | refine M.nilCheck_i ?_ | refine M.field_i ?_ | refine M.draw_i ?_ | refine M.cap_i ?_ | refine M.gd_tt ?_ | refine M.gd_ff ?_ | refine M.gd_ft ?_ | refine M.gd_tf ?_ | refine M.gd_u ?_ | refine M.pick_t ?_ | refine M.pick_f ?_ | refine M.not_t ?_ | refine M.not_f ?_ | refine M.cond_t ?_ | refine M.cond_f ?_ | refine M.eqNilP_tn ?_ | refine M.eqNilP_ts ?_ | refine M.eqNilP_fn ?_ | refine M.eqNilP_fs ?_ | refine M.eqNilS_tn ?_ | refine M.eqNilS_ts ?_ | refine M.eqNilS_fn ?_ | refine M.eqNilS_fs ?_ | refine M.lss_t (by omega) ?_ | refine M.lss_f (by omega) ?_ | refine M.leq_t (by omega) ?_ | refine M.leq_f (by omega) ?_ | refine M.gtr_t (by omega) ?_ | refine M.gtr_f (by omega) ?_ | refine M.geq_t (by omega) ?_ | refine M.geq_f (by omega) ?_ | refine M.eql_t (by omega) ?_ | refine M.eql_f (by omega) ?_ | refine M.neq_t (by omega) ?_ | refine M.neq_f (by omega) ?_ | refine M.add_i (by omega) (by omega) ?_ | refine M.sub_i (by omega) (by omega) ?_ | refine M.load_i (by assumption) ?_ | refine M.loadB_i (by assumption) rfl ?_ | refine M.st_i (by assumption) ?_ | refine M.stB_i (by assumption) rfl ?_ | refine M.gs_ff ?_ | refine M.gs_tt ?_ | refine M.gs_ft ?_ | refine M.gs_tf ?_ | refine M.stAll_i (by assumption) rfl ?_))
    have : i = l.length := by omega
    subst this
    rw [List.take_length] at go
    have hle : (pureF l l.flatten).length ≤ 100000000 := Nat.le_trans (List.length_filter_le _ _) hft
    refine M.call_i (sorted_ret (GI.lv go) (by omega)) ?_; rintro _ w2 ⟨g2, k2⟩
    have := k1.size
    exact ⟨g2.mono (fun b hb h => by omega), k1.trans k2 (fun _ _ h => h)⟩
end Go.Proofs.Ytfkbacoiocniaaa
