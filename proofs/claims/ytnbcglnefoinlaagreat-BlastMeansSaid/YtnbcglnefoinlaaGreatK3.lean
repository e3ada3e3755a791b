import Derived.Test.YtnbcglnefoinlaaGreatK2
import Derived.Laws.StructEq
import Derived.Tactics
namespace Go.Proofs.YtnbcglnefoinlaaGreat
open Go.Mw Go.Maps Go.MapKept
set_option linter.unusedVariables false
set_option linter.unusedSimpArgs false
set_option maxRecDepth 100000
attribute [local irreducible] M.val M.unit M.next M.pick M.new M.nilCheck M.load1 M.loadA M.store M.fieldAddr M.indexSl M.indexArr M.slice M.makeSlice M.buildSlice M.len M.lenS M.cap M.append M.extract M.conv M.not M.neg M.bin M.shift M.eqB M.eqNil M.scat M.call M.callv M.gd M.share M.cond M.loop M.draw pureW readW Ret
def sh19 (x0 x1 x2 : Value) (R : Kt) (w : World) : Prop :=
  M.eqNil 0 false x0 (fun t10 w =>
  M.cond t10
  (R (.tuple #[(Value.int IntKind.i64 0), (Value.int IntKind.i64 8)]) w)
  (M.call Tryz.prog 39 #[x1] (fun t13 w =>
  M.bin .eql t13 (Value.int IntKind.u64 0) (fun t14 w =>
  M.cond t14
  (R (.tuple #[(Value.int IntKind.i64 0), (Value.int IntKind.i64 2)]) w)
  (M.call Tryz.prog 43 #[x1, x2] (fun t19 w =>
  pureW Tryz.prog (Instr.build 73 #[(0, (Value.int IntKind.i64 20)), (1, x1), (5, t19)]) (fun t20 w =>
  M.call Tryz.prog 40 #[x0, t20] (fun t21 w =>
  M.extract 0 t21 (fun t22 w =>
  M.extract 1 t21 (fun t23 w =>
  R (.tuple #[t22, t23]) w) w) w) w) w) w)) w) w)) w
theorem ok19 (x0 x1 x2 : Value) (R : Kt) (w : World) (h : sh19 x0 x1 x2 R w) : Ret Tryz.prog 19 #[x0, x1, x2] w R :=
  ret_mk <| calls_of_comp mixed (c := Tryz.f19.body.getD .skip) (args := [x0, x1, x2]) (rs := [(ResultVar.tmp 6), (ResultVar.tmp 7)]) (Ann.seq Ann.text (Ann.seq (Ann.block (Ann.seq Ann.text (Ann.cond (Ann.seq Ann.text Ann.leaf) (Ann.seq Ann.text (Ann.cond (Ann.seq Ann.text Ann.leaf) Ann.leaf))))) (Ann.seq Ann.text Ann.leaf)))
    Tryz.func19 (by kernel_rfl) (by kernel_rfl)
    (Eq.mp (by kernel_rfl) h)
def sh17 (x0 x1 x2 : Value) (R : Kt) (w : World) : Prop :=
  M.eqNil 0 false x0 (fun t14 w =>
  M.cond t14
  (R (.tuple #[(Value.int IntKind.i64 0), (Value.int IntKind.i64 8)]) w)
  (M.call Tryz.prog 39 #[x1] (fun t17 w =>
  M.bin .eql t17 (Value.int IntKind.u64 0) (fun t18 w =>
  M.cond t18
  (R (.tuple #[(Value.int IntKind.i64 0), (Value.int IntKind.i64 2)]) w)
  (M.bin .lss x2 (Value.int IntKind.i64 0) (fun t21 w =>
  M.gd t21 false (fun k w => k x2 w) (fun t23 w =>
  M.gd t21 false (fun k w => M.bin .geq t23 (Value.int IntKind.i64 256) k w) (fun t24 w =>
  M.pick t21 (Value.bool true) t24 (fun t25 w =>
  M.cond t25
  (R (.tuple #[(Value.int IntKind.i64 0), (Value.int IntKind.i64 10)]) w)
  (M.nilCheck x0 (fun t28 w =>
  M.fieldAddr 2 t28 (fun t29 w =>
  M.load1 t29 (fun t30 w =>
  readW Tryz.prog (Instr.lookup 91 t30 x2 true) (fun t32 w =>
  M.extract 0 t32 (fun t33 w =>
  M.extract 1 t32 (fun t34 w =>
  M.gd t34 true (fun k w => k t33 w) (fun t37 w =>
  M.gd t34 true (fun k w => k x1 w) (fun t38 w =>
  M.gd t34 true (fun k w => M.bin .neq t37 t38 k w) (fun t39 w =>
  M.pick t34 t39 (Value.bool false) (fun t40 w =>
  M.cond t40
  (R (.tuple #[(Value.int IntKind.i64 0), (Value.int IntKind.i64 2)]) w)
  (pureW Tryz.prog (Instr.build 73 #[(0, (Value.int IntKind.i64 21)), (1, x1), (2, x2)]) (fun t45 w =>
  M.call Tryz.prog 40 #[x0, t45] (fun t46 w =>
  M.extract 0 t46 (fun t47 w =>
  M.extract 1 t46 (fun t48 w =>
  M.share (fun K1 w =>
  M.bin .eql t48 (Value.int IntKind.i64 0) (fun t50 w =>
  M.cond t50
  (M.nilCheck x0 (fun t52 w =>
  M.fieldAddr 2 t52 (fun t53 w =>
  M.load1 t53 (fun t54 w =>
  M.unit Tryz.prog (Instr.mapUpdate 91 t54 x2 x1) (fun _ w =>
  K1 [] w) w) w) w) w)
  (K1 [] w)) w) (fun s1 w => ∀ _ : List Value,
  R (.tuple #[t47, t48]) w) w) w) w) w) w)) w) w) w) w) w) w) w) w) w) w)) w) w) w) w)) w) w)) w
theorem ok17 (x0 x1 x2 : Value) (R : Kt) (w : World) (h : sh17 x0 x1 x2 R w) : Ret Tryz.prog 17 #[x0, x1, x2] w R :=
  ret_mk <| calls_of_comp mixed (c := Tryz.f17.body.getD .skip) (args := [x0, x1, x2]) (rs := [(ResultVar.tmp 6), (ResultVar.tmp 7)]) (Ann.seq Ann.text (Ann.seq (Ann.block (Ann.seq Ann.text (Ann.cond (Ann.seq Ann.text Ann.leaf) (Ann.seq Ann.text (Ann.cond (Ann.seq Ann.text Ann.leaf) (Ann.seq Ann.text (Ann.cond (Ann.seq Ann.text Ann.leaf) Ann.leaf))))))) (Ann.seq (Ann.seq Ann.text (Ann.seq Ann.text (Ann.cond (Ann.seq Ann.text Ann.leaf) Ann.leaf))) (Ann.seq Ann.text (Ann.join [] [49, 50, 51, 52, 53, 54, 55, 56] (Ann.seq Ann.text (Ann.cond Ann.text Ann.leaf)) (Ann.seq Ann.text Ann.leaf))))))
    Tryz.func17 (by kernel_rfl) (by kernel_rfl)
    (Eq.mp (by kernel_rfl) h)
def sh45 (x0 x1 x2 : Value) (R : Kt) (w : World) : Prop :=
  M.eqNil 0 false x0 (fun t10 w =>
  M.cond t10
  (R (.tuple #[(Value.int IntKind.i64 0), (Value.int IntKind.i64 8)]) w)
  (M.bin .neq x1 (Value.int IntKind.i64 15) (fun t13 w =>
  M.gd t13 true (fun k w => k x1 w) (fun t15 w =>
  M.gd t13 true (fun k w => M.bin .neq t15 (Value.int IntKind.i64 16) k w) (fun t16 w =>
  M.pick t13 t16 (Value.bool false) (fun t17 w =>
  M.cond t17
  (R (.tuple #[(Value.int IntKind.i64 0), (Value.int IntKind.i64 3)]) w)
  (M.buildSlice 3 1 #[.int .i64 0] 1 [(0, x2)] (fun t21 w =>
  M.call Tryz.prog 41 #[x0, t21] (fun t22 w =>
  M.cond t22
  (R (.tuple #[(Value.int IntKind.i64 0), (Value.int IntKind.i64 11)]) w)
  (M.call Tryz.prog 42 #[x0, x2] (fun t27 w =>
  pureW Tryz.prog (Instr.build 73 #[(0, x1), (1, t27), (2, x2)]) (fun t29 w =>
  M.call Tryz.prog 40 #[x0, t29] (fun t30 w =>
  M.extract 0 t30 (fun t31 w =>
  M.extract 1 t30 (fun t32 w =>
  R (.tuple #[t31, t32]) w) w) w) w) w) w)) w) w)) w) w) w) w)) w
theorem ok45 (x0 x1 x2 : Value) (R : Kt) (w : World) (h : sh45 x0 x1 x2 R w) : Ret Tryz.prog 45 #[x0, x1, x2] w R :=
  ret_mk <| calls_of_comp mixed (c := Tryz.f45.body.getD .skip) (args := [x0, x1, x2]) (rs := [(ResultVar.tmp 6), (ResultVar.tmp 7)]) (Ann.seq Ann.text (Ann.seq (Ann.block (Ann.seq Ann.text (Ann.cond (Ann.seq Ann.text Ann.leaf) (Ann.seq Ann.text (Ann.cond (Ann.seq Ann.text Ann.leaf) (Ann.seq Ann.text (Ann.cond (Ann.seq Ann.text Ann.leaf) Ann.leaf))))))) (Ann.seq Ann.text Ann.leaf)))
    Tryz.func45 (by kernel_rfl) (by kernel_rfl)
    (Eq.mp (by kernel_rfl) h)
def sh18 (x0 x1 x2 x3 : Value) (R : Kt) (w : World) : Prop :=
  M.eqNil 0 false x0 (fun t13 w =>
  M.cond t13
  (R (.tuple #[(Value.int IntKind.i64 0), (Value.int IntKind.i64 8)]) w)
  (M.bin .lss x1 (Value.int IntKind.i64 1) (fun t16 w =>
  M.gd t16 false (fun k w => k x1 w) (fun t18 w =>
  M.gd t16 false (fun k w => M.bin .gtr t18 (Value.int IntKind.i64 14) k w) (fun t19 w =>
  M.pick t16 (Value.bool true) t19 (fun t20 w =>
  M.cond t20
  (R (.tuple #[(Value.int IntKind.i64 0), (Value.int IntKind.i64 3)]) w)
  (M.buildSlice 3 1 #[.int .i64 0] 2 [(0, x2), (1, x3)] (fun t25 w =>
  M.call Tryz.prog 41 #[x0, t25] (fun t26 w =>
  M.cond t26
  (R (.tuple #[(Value.int IntKind.i64 0), (Value.int IntKind.i64 11)]) w)
  (M.call Tryz.prog 42 #[x0, x2] (fun t30 w =>
  M.call Tryz.prog 42 #[x0, x3] (fun t33 w =>
  M.bin .neq t30 t33 (fun t34 w =>
  M.cond t34
  (R (.tuple #[(Value.int IntKind.i64 0), (Value.int IntKind.i64 2)]) w)
  (M.call Tryz.prog 42 #[x0, x2] (fun t37 w =>
  M.share (fun K1 w =>
  M.bin .eql x1 (Value.int IntKind.i64 12) (fun t39 w =>
  M.gd t39 false (fun k w => k x1 w) (fun t41 w =>
  M.gd t39 false (fun k w => M.bin .eql t41 (Value.int IntKind.i64 13) k w) (fun t42 w =>
  M.pick t39 (Value.bool true) t42 (fun t43 w =>
  M.gd t43 false (fun k w => k x1 w) (fun t45 w =>
  M.gd t43 false (fun k w => M.bin .eql t45 (Value.int IntKind.i64 14) k w) (fun t46 w =>
  M.pick t43 (Value.bool true) t46 (fun t47 w =>
  M.cond t47
  (K1 [(Value.int IntKind.i64 1)] w)
  (K1 [t37] w)) w) w) w) w) w) w) w) (fun s1 w => ∀ _ : List Value,
  pureW Tryz.prog (Instr.build 73 #[(0, x1), (1, (s1.getD 0 undef)), (2, x2), (3, x3)]) (fun t53 w =>
  M.call Tryz.prog 40 #[x0, t53] (fun t54 w =>
  M.extract 0 t54 (fun t55 w =>
  M.extract 1 t54 (fun t56 w =>
  R (.tuple #[t55, t56]) w) w) w) w) w) w) w)) w) w) w)) w) w)) w) w) w) w)) w
theorem ok18 (x0 x1 x2 x3 : Value) (R : Kt) (w : World) (h : sh18 x0 x1 x2 x3 R w) : Ret Tryz.prog 18 #[x0, x1, x2, x3] w R :=
  ret_mk <| calls_of_comp mixed (c := Tryz.f18.body.getD .skip) (args := [x0, x1, x2, x3]) (rs := [(ResultVar.tmp 8), (ResultVar.tmp 9)]) (Ann.seq Ann.text (Ann.seq (Ann.block (Ann.seq Ann.text (Ann.cond (Ann.seq Ann.text Ann.leaf) (Ann.seq Ann.text (Ann.cond (Ann.seq Ann.text Ann.leaf) (Ann.seq Ann.text (Ann.cond (Ann.seq Ann.text Ann.leaf) (Ann.seq Ann.text (Ann.cond (Ann.seq Ann.text Ann.leaf) Ann.leaf))))))))) (Ann.seq Ann.text (Ann.join [10] [38, 39, 40, 41, 42, 43, 44, 45, 46, 47] (Ann.seq Ann.text (Ann.cond Ann.text Ann.leaf)) (Ann.seq Ann.text Ann.leaf)))))
    Tryz.func18 (by kernel_rfl) (by kernel_rfl)
    (Eq.mp (by kernel_rfl) h)
def sh46 (x0 x1 x2 x3 : Value) (R : Kt) (w : World) : Prop :=
  M.eqNil 0 false x0 (fun t12 w =>
  M.cond t12
  (R (.tuple #[(Value.int IntKind.i64 0), (Value.int IntKind.i64 8)]) w)
  (M.buildSlice 3 1 #[.int .i64 0] 3 [(0, x1), (1, x2), (2, x3)] (fun t18 w =>
  M.call Tryz.prog 41 #[x0, t18] (fun t19 w =>
  M.cond t19
  (R (.tuple #[(Value.int IntKind.i64 0), (Value.int IntKind.i64 11)]) w)
  (M.call Tryz.prog 42 #[x0, x1] (fun t23 w =>
  M.bin .neq t23 (Value.int IntKind.i64 1) (fun t24 w =>
  M.gd t24 false (fun k w => k x0 w) (fun t26 w =>
  M.gd t24 false (fun k w => k x2 w) (fun t27 w =>
  M.gd t24 false (fun k w => M.call Tryz.prog 42 #[t26, t27] k w) (fun t28 w =>
  M.gd t24 false (fun k w => k x0 w) (fun t29 w =>
  M.gd t24 false (fun k w => k x3 w) (fun t30 w =>
  M.gd t24 false (fun k w => M.call Tryz.prog 42 #[t29, t30] k w) (fun t31 w =>
  M.gd t24 false (fun k w => M.bin .neq t28 t31 k w) (fun t32 w =>
  M.pick t24 (Value.bool true) t32 (fun t33 w =>
  M.cond t33
  (R (.tuple #[(Value.int IntKind.i64 0), (Value.int IntKind.i64 2)]) w)
  (M.call Tryz.prog 42 #[x0, x2] (fun t37 w =>
  pureW Tryz.prog (Instr.build 73 #[(0, (Value.int IntKind.i64 22)), (1, t37), (2, x1), (3, x2), (4, x3)]) (fun t41 w =>
  M.call Tryz.prog 40 #[x0, t41] (fun t42 w =>
  M.extract 0 t42 (fun t43 w =>
  M.extract 1 t42 (fun t44 w =>
  R (.tuple #[t43, t44]) w) w) w) w) w) w)) w) w) w) w) w) w) w) w) w) w)) w) w)) w
theorem ok46 (x0 x1 x2 x3 : Value) (R : Kt) (w : World) (h : sh46 x0 x1 x2 x3 R w) : Ret Tryz.prog 46 #[x0, x1, x2, x3] w R :=
  ret_mk <| calls_of_comp mixed (c := Tryz.f46.body.getD .skip) (args := [x0, x1, x2, x3]) (rs := [(ResultVar.tmp 8), (ResultVar.tmp 9)]) (Ann.seq Ann.text (Ann.seq (Ann.block (Ann.seq Ann.text (Ann.cond (Ann.seq Ann.text Ann.leaf) (Ann.seq Ann.text (Ann.cond (Ann.seq Ann.text Ann.leaf) (Ann.seq Ann.text (Ann.cond (Ann.seq Ann.text Ann.leaf) Ann.leaf))))))) (Ann.seq Ann.text Ann.leaf)))
    Tryz.func46 (by kernel_rfl) (by kernel_rfl)
    (Eq.mp (by kernel_rfl) h)
def sh47 (x0 x1 x2 x3 : Value) (R : Kt) (w : World) : Prop :=
  M.eqNil 0 false x0 (fun t12 w =>
  M.cond t12
  (R (.tuple #[(Value.int IntKind.i64 0), (Value.int IntKind.i64 8)]) w)
  (M.buildSlice 3 1 #[.int .i64 0] 1 [(0, x1)] (fun t16 w =>
  M.call Tryz.prog 41 #[x0, t16] (fun t17 w =>
  M.cond t17
  (R (.tuple #[(Value.int IntKind.i64 0), (Value.int IntKind.i64 11)]) w)
  (M.bin .lss x3 (Value.int IntKind.i64 1) (fun t20 w =>
  M.gd t20 false (fun k w => k x2 w) (fun t22 w =>
  M.gd t20 false (fun k w => M.bin .lss t22 (Value.int IntKind.i64 0) k w) (fun t23 w =>
  M.pick t20 (Value.bool true) t23 (fun t24 w =>
  M.gd t24 false (fun k w => k x3 w) (fun t26 w =>
  M.gd t24 false (fun k w => k x0 w) (fun t27 w =>
  M.gd t24 false (fun k w => k x1 w) (fun t28 w =>
  M.gd t24 false (fun k w => M.call Tryz.prog 42 #[t27, t28] k w) (fun t29 w =>
  M.gd t24 false (fun k w => M.bin .gtr t26 t29 k w) (fun t30 w =>
  M.pick t24 (Value.bool true) t30 (fun t31 w =>
  M.gd t31 false (fun k w => k x2 w) (fun t33 w =>
  M.gd t31 false (fun k w => k x0 w) (fun t34 w =>
  M.gd t31 false (fun k w => k x1 w) (fun t35 w =>
  M.gd t31 false (fun k w => M.call Tryz.prog 42 #[t34, t35] k w) (fun t36 w =>
  M.gd t31 false (fun k w => k x3 w) (fun t37 w =>
  M.gd t31 false (fun k w => M.bin .sub t36 t37 k w) (fun t38 w =>
  M.gd t31 false (fun k w => M.bin .gtr t33 t38 k w) (fun t39 w =>
  M.pick t31 (Value.bool true) t39 (fun t40 w =>
  M.cond t40
  (R (.tuple #[(Value.int IntKind.i64 0), (Value.int IntKind.i64 2)]) w)
  (pureW Tryz.prog (Instr.build 73 #[(0, (Value.int IntKind.i64 23)), (1, x3), (2, x1), (3, x2)]) (fun t45 w =>
  M.call Tryz.prog 40 #[x0, t45] (fun t46 w =>
  M.extract 0 t46 (fun t47 w =>
  M.extract 1 t46 (fun t48 w =>
  R (.tuple #[t47, t48]) w) w) w) w) w)) w) w) w) w) w) w) w) w) w) w) w) w) w) w) w) w) w) w)) w) w)) w
theorem ok47 (x0 x1 x2 x3 : Value) (R : Kt) (w : World) (h : sh47 x0 x1 x2 x3 R w) : Ret Tryz.prog 47 #[x0, x1, x2, x3] w R :=
  ret_mk <| calls_of_comp mixed (c := Tryz.f47.body.getD .skip) (args := [x0, x1, x2, x3]) (rs := [(ResultVar.tmp 8), (ResultVar.tmp 9)]) (Ann.seq Ann.text (Ann.seq (Ann.block (Ann.seq Ann.text (Ann.cond (Ann.seq Ann.text Ann.leaf) (Ann.seq Ann.text (Ann.cond (Ann.seq Ann.text Ann.leaf) (Ann.seq Ann.text (Ann.cond (Ann.seq Ann.text Ann.leaf) Ann.leaf))))))) (Ann.seq Ann.text Ann.leaf)))
    Tryz.func47 (by kernel_rfl) (by kernel_rfl)
    (Eq.mp (by kernel_rfl) h)
def sh48 (x0 x1 x2 : Value) (R : Kt) (w : World) : Prop :=
  M.eqNil 0 false x0 (fun t11 w =>
  M.cond t11
  (R (.tuple #[(Value.int IntKind.i64 0), (Value.int IntKind.i64 8)]) w)
  (M.buildSlice 3 1 #[.int .i64 0] 2 [(0, x1), (1, x2)] (fun t16 w =>
  M.call Tryz.prog 41 #[x0, t16] (fun t17 w =>
  M.cond t17
  (R (.tuple #[(Value.int IntKind.i64 0), (Value.int IntKind.i64 11)]) w)
  (M.call Tryz.prog 42 #[x0, x1] (fun t20 w =>
  M.call Tryz.prog 42 #[x0, x2] (fun t23 w =>
  M.bin .add t20 t23 (fun t24 w =>
  M.bin .gtr t24 (Value.int IntKind.i64 64) (fun t26 w =>
  M.cond t26
  (R (.tuple #[(Value.int IntKind.i64 0), (Value.int IntKind.i64 2)]) w)
  (pureW Tryz.prog (Instr.build 73 #[(0, (Value.int IntKind.i64 24)), (1, t24), (2, x1), (3, x2)]) (fun t31 w =>
  M.call Tryz.prog 40 #[x0, t31] (fun t32 w =>
  M.extract 0 t32 (fun t33 w =>
  M.extract 1 t32 (fun t34 w =>
  R (.tuple #[t33, t34]) w) w) w) w) w)) w) w) w) w)) w) w)) w
theorem ok48 (x0 x1 x2 : Value) (R : Kt) (w : World) (h : sh48 x0 x1 x2 R w) : Ret Tryz.prog 48 #[x0, x1, x2] w R :=
  ret_mk <| calls_of_comp mixed (c := Tryz.f48.body.getD .skip) (args := [x0, x1, x2]) (rs := [(ResultVar.tmp 6), (ResultVar.tmp 7)]) (Ann.seq Ann.text (Ann.seq (Ann.block (Ann.seq Ann.text (Ann.cond (Ann.seq Ann.text Ann.leaf) (Ann.seq Ann.text (Ann.cond (Ann.seq Ann.text Ann.leaf) Ann.leaf))))) (Ann.seq Ann.text (Ann.seq (Ann.seq Ann.text (Ann.cond (Ann.seq Ann.text Ann.leaf) Ann.leaf)) (Ann.seq Ann.text Ann.leaf)))))
    Tryz.func48 (by kernel_rfl) (by kernel_rfl)
    (Eq.mp (by kernel_rfl) h)
def sh49 (x0 x1 x2 x3 : Value) (R : Kt) (w : World) : Prop :=
  M.eqNil 0 false x0 (fun t13 w =>
  M.cond t13
  (R (.tuple #[(Value.int IntKind.i64 0), (Value.int IntKind.i64 8)]) w)
  (M.buildSlice 3 1 #[.int .i64 0] 1 [(0, x1)] (fun t17 w =>
  M.call Tryz.prog 41 #[x0, t17] (fun t18 w =>
  M.cond t18
  (R (.tuple #[(Value.int IntKind.i64 0), (Value.int IntKind.i64 11)]) w)
  (M.call Tryz.prog 42 #[x0, x1] (fun t23 w =>
  M.bin .lss x2 t23 (fun t24 w =>
  M.gd t24 false (fun k w => k x2 w) (fun t26 w =>
  M.gd t24 false (fun k w => M.bin .gtr t26 (Value.int IntKind.i64 64) k w) (fun t27 w =>
  M.pick t24 (Value.bool true) t27 (fun t28 w =>
  M.cond t28
  (R (.tuple #[(Value.int IntKind.i64 0), (Value.int IntKind.i64 2)]) w)
  (M.call Tryz.prog 42 #[x0, x1] (fun t33 w =>
  M.bin .eql x2 t33 (fun t34 w =>
  M.cond t34
  (R (.tuple #[x1, (Value.int IntKind.i64 0)]) w)
  (pureW Tryz.prog (Instr.build 73 #[(0, (Value.int IntKind.i64 25)), (1, x2), (2, x1)]) (fun t38 w =>
  M.new 73 #[.int .i64 0, .int .i64 0, .int .i64 0, .int .i64 0, .int .i64 0, .int .u64 0] (fun t10 w =>
  M.store 6 t10 t38 (fun _ w =>
  M.share (fun K1 w =>
  M.cond x3
  (M.fieldAddr 0 t10 (fun t40 w =>
  M.store 1 t40 (Value.int IntKind.i64 26) (fun _ w =>
  K1 [] w) w) w)
  (K1 [] w)) (fun s1 w => ∀ _ : List Value,
  M.loadA 6 t10 (fun t42 w =>
  M.call Tryz.prog 40 #[x0, t42] (fun t43 w =>
  M.extract 0 t43 (fun t44 w =>
  M.extract 1 t43 (fun t45 w =>
  R (.tuple #[t44, t45]) w) w) w) w) w) w) w) w) w)) w) w)) w) w) w) w) w)) w) w)) w
theorem ok49 (x0 x1 x2 x3 : Value) (R : Kt) (w : World) (h : sh49 x0 x1 x2 x3 R w) : Ret Tryz.prog 49 #[x0, x1, x2, x3] w R :=
  ret_mk <| calls_of_comp mixed (c := Tryz.f49.body.getD .skip) (args := [x0, x1, x2, x3]) (rs := [(ResultVar.tmp 8), (ResultVar.tmp 9)]) (Ann.seq Ann.text (Ann.seq (Ann.block (Ann.seq Ann.text (Ann.cond (Ann.seq Ann.text Ann.leaf) (Ann.seq Ann.text (Ann.cond (Ann.seq Ann.text Ann.leaf) (Ann.seq Ann.text (Ann.cond (Ann.seq Ann.text Ann.leaf) (Ann.seq Ann.text (Ann.cond (Ann.seq Ann.text Ann.leaf) Ann.leaf))))))))) (Ann.seq Ann.text (Ann.join [] [39, 40] (Ann.seq Ann.text (Ann.cond Ann.text Ann.leaf)) (Ann.seq Ann.text Ann.leaf)))))
    Tryz.func49 (by kernel_rfl) (by kernel_rfl)
    (Eq.mp (by kernel_rfl) h)
def WdR (N : List Nd) (kw : List (Int × Value)) : Prop := (∀ n ∈ N, n.op = 21 → lkp kw n.a = some (vi n.wd)) ∧ ∀ i v, lkp kw i = some v → ∃ n ∈ N, n.op = 21 ∧ n.a = i ∧ v = vi n.wd
def DagO (w : World) (F : Nat → Prop) (p : Nat) (N : List Nd) (most : Int) : Prop := ∃ kw, DagC w F p N most kw ∧ WdR N kw ∧ GoodN N ∧ N.length ≤ 65536 ∧ most ≤ 65536
theorem DagO.keep {w w' : World} {F S : Nat → Prop} {p : Nat} {N : List Nd} {most : Int} (h : DagO w F p N most) (k : Keep w w' S) (hs : ∀ b, F b → ¬ S b) : DagO w' F p N most := by
  obtain ⟨kw, h1, h2⟩ := h
  exact ⟨kw, h1.keep k hs, h2⟩
theorem DagO.keepN {w w' : World} {F : Nat → Prop} {p : Nat} {N : List Nd} {most : Int} (h : DagO w F p N most) (k : Keep w w' No) : DagO w' F p N most := h.keep k (fun _ _ h => h)
theorem DagO.lt {w : World} {F : Nat → Prop} {p : Nat} {N : List Nd} {most : Int} (h : DagO w F p N most) {b : Nat} (hb : F b) : b < w.heap.size := by
  obtain ⟨kw, h1, _⟩ := h
  exact h1.lt hb
theorem DagO.good {w : World} {F : Nat → Prop} {p : Nat} {N : List Nd} {most : Int} (h : DagO w F p N most) : GoodN N := by
  obtain ⟨kw, _, _, h, _⟩ := h; exact h
theorem DagO.len {w : World} {F : Nat → Prop} {p : Nat} {N : List Nd} {most : Int} (h : DagO w F p N most) : N.length ≤ 65536 ∧ most ≤ 65536 := by
  obtain ⟨kw, _, _, _, h⟩ := h; exact h
def AskO (w : World) (F : Nat → Prop) (p : Nat) (most : Int) (res : List Nd × Int × Int) (r : Value) (w' : World) : Prop :=
  ∃ F', r = .tuple #[vi res.2.1, vi res.2.2] ∧ DagO w' F' p res.1 most ∧ (∀ b, b < w.heap.size → F' b → F b) ∧ Keep w w' F
theorem AskO.from {w w1 : World} {F : Nat → Prop} {p : Nat} {most : Int} {res : List Nd × Int × Int} {r : Value} {w' : World} (k : Keep w w1 No) (h : AskO w1 F p most res r w') : AskO w F p most res r w' := by
  obtain ⟨F', h1, h2, h3, h4⟩ := h
  exact ⟨F', h1, h2, fun b hb => h3 b (Nat.lt_of_lt_of_le hb k.size), (k.mono (fun _ _ h => h.elim)).trans h4 (fun _ _ h => h)⟩
theorem AskO.same {w w1 : World} {F : Nat → Prop} {p : Nat} {N : List Nd} {most : Int} (k : Keep w w1 No) (h : DagO w1 F p N most) (i e : Int) : AskO w F p most (N, i, e) (.tuple #[vi i, vi e]) w1 :=
  ⟨F, rfl, h, fun _ _ h => h, k.mono (fun _ _ h => h.elim)⟩
section
variable {w : World} {F : Nat → Prop} {p : Nat} {N : List Nd} {most : Int}
theorem makeO (h : DagO w F p N most) {n : Nd} (hg : goodN N n) (ho : n.op ≠ 21) :
    Ret Tryz.prog 40 #[ptr p, encN n] w (AskO w F p most (madeN most N n)) := by
  obtain ⟨kw, hd, hw, hG, hN, hm⟩ := h
  refine (make_ret hd (by omega) (hg.ok (by omega))).mono ?_
  rintro r w' ⟨F', rfl, h1, h2, h3⟩
  have ha := ask_made (most := most) hG hg
  refine ⟨F', rfl, ⟨kw, h1, ?_, ha.good, ?_, hm⟩, h2, h3⟩
  · unfold madeN
    split
    · exact hw
    · split
      · exact hw
      · refine ⟨fun m hmem h21 => ?_, fun i v hv => ?_⟩
        · rcases List.mem_append.1 hmem with h | h
          · exact hw.1 m h h21
          · simp at h; subst h; exact absurd h21 ho
        · obtain ⟨m, h, h'⟩ := hw.2 i v hv
          exact ⟨m, List.mem_append_left _ h, h'⟩
  · rcases ha.len with h | h
    · omega
    · rw [h]; exact hN
theorem const_ret (h : DagO w F p N most) (n : Int) (x : W64) :
    Ret Tryz.prog 19 #[ptr p, vi n, vw x] w (AskO w F p most (constN most N n x)) := by
  refine ok19 _ _ _ _ _ ?_
  unfold sh19
  (repeat (first|refine jp ?_|refine jt ?_))
  refine M.call_i (mask_ret n w) ?_; rintro _ w1 ⟨rfl, rfl⟩
  change M.bin .eql (vw (maskW n)) (vw 0) _ _
  refine M.eqlW_i ?_
  have hz : decide (maskW n = 0) = !fitsB n := by
    cases hf : fitsB n with
    | false =>
      have : maskW n = 0 := by unfold maskW; rw [hf]; rfl
      rw [this]; rfl
    | true =>
      obtain ⟨m, rfl, h1, h2⟩ := fits_nat hf
      rw [decide_eq_false]
      · rfl
      · intro e
        have := maskW_bit h1 h2 0
        rw [e, decide_eq_true (by omega)] at this
        simp at this
  rw [hz]
  unfold constN
  cases hf : fitsB n with
  | false =>
    (repeat (refine jo ?_))
    exact AskO.same (Keep.refl _ _) h 0 2
  | true =>
    have hm : ∃ m : Nat, n = m ∧ 1 ≤ m ∧ m ≤ 64 := fits_nat hf
    (repeat (refine jp ?_))
    refine M.call_i (cut_ret n x w1) ?_; rintro _ w2 ⟨rfl, rfl⟩
    refine M.pure_i (encN ⟨20, n, 0, 0, 0, cutW n x⟩) (fun _ => by kernel_rfl) ?_
    obtain ⟨m, rfl, h1, h2⟩ := hm
    have hg : goodN N ⟨20, m, 0, 0, 0, cutW m x⟩ := ⟨by show 1 ≤ (m : Int) ∧ (m : Int) ≤ 64; omega, by intro k hk; simp [kidsN] at hk, .inl ⟨rfl, rfl, rfl, rfl, by
      show cutW m (cutW m x) = cutW m x
      unfold cutW
      rw [BitVec.and_assoc, BitVec.and_self]⟩⟩
    refine M.call_i (makeO h hg (by show (20 : Int) ≠ 21; omega)) ?_
    rintro _ w3 ⟨F', rfl, h3⟩
    refine M.extract_i rfl ?_
    refine M.extract_i rfl ?_
    exact ⟨F', rfl, h3⟩
theorem mask_zero (n : Int) : decide (maskW n = 0) = !fitsB n := by
  cases hf : fitsB n with
  | false =>
    have : maskW n = 0 := by unfold maskW; rw [hf]; rfl
    rw [this]; rfl
  | true =>
    obtain ⟨m, rfl, h1, h2⟩ := fits_nat hf
    rw [decide_eq_false]
    · rfl
    · intro e
      have := maskW_bit h1 h2 0
      rw [e, decide_eq_true (by omega)] at this
      simp at this
theorem otherW_of {kw : List (Int × Value)} (h : WdR N kw) (w i : Int) : otherW N w i = match lkp kw i with
    | some (.int _ x) => decide (x ≠ w)
    | _ => false := by
  cases hl : lkp kw i with
  | none =>
    simp only
    unfold otherW
    rw [List.any_eq_false]
    intro n hn hh
    simp only [Bool.and_eq_true, decide_eq_true_eq] at hh
    have := h.1 n hn hh.1.1
    rw [hh.1.2, hl] at this
    simp at this
  | some v =>
    obtain ⟨n, hn, h1, h2, rfl⟩ := h.2 i v hl
    simp only
    unfold otherW
    by_cases hw : n.wd = w
    · rw [decide_eq_false (by simpa using hw), List.any_eq_false]
      intro m hm hh
      simp only [Bool.and_eq_true, decide_eq_true_eq] at hh
      have := h.1 m hm hh.1.1
      rw [hh.1.2, hl] at this
      simp only [Option.some.injEq, Value.int.injEq, true_and] at this
      exact hh.2 (by rw [← this]; exact hw)
    · rw [decide_eq_true (by simpa using hw)]
      exact List.any_eq_true.2 ⟨n, hn, by simp [h1, h2, hw]⟩
set_option maxHeartbeats 1000000 in
theorem dvar_ret (h : DagO w F p N most) (n i : Int) :
    Ret Tryz.prog 17 #[ptr p, vi n, vi i] w (AskO w F p most (varN most N n i)) := by
  refine ok17 _ _ _ _ _ ?_
  unfold sh17
  (repeat (first|refine jp ?_|refine jt ?_))
  refine M.call_i (mask_ret n w) ?_; rintro _ w1 ⟨rfl, rfl⟩
  change M.bin .eql (vw (maskW n)) (vw 0) _ _
  refine M.eqlW_i ?_
  rw [mask_zero]
  unfold varN
  cases hf : fitsB n with
  | false =>
    rw [if_pos rfl]
    (repeat (refine jo ?_))
    exact AskO.same (Keep.refl _ _) h 0 2
  | true =>
    rw [if_neg (by simp)]
    by_cases hi0 : i < 0
    · rw [if_pos (.inl hi0)]
      (repeat (first|refine ji ?_|refine jk ?_|refine jo ?_|refine jp ?_|refine jy ?_))
      exact AskO.same (Keep.refl _ _) h 0 10
    by_cases hi1 : 255 < i
    · rw [if_pos (.inr hi1)]
      (repeat (first|refine jg ?_|refine jl ?_|refine jo ?_|refine jp ?_|refine jz ?_|refine jE ?_))
      exact AskO.same (Keep.refl _ _) h 0 10
    rw [if_neg (by omega)]
    obtain ⟨kw, hd, hw, hG, hN, hm⟩ := id h
    obtain ⟨v, r1, r2, kv, g1, g2, g3, g4, g5, g6, g7, g8, g9, g10⟩ := id hd
    have ho := otherW_of hw n i
    (repeat (first|refine jb ?_|refine jc ?_|refine jg ?_|refine jl ?_|refine jp ?_|refine jz ?_|refine jF ?_|refine jN (by assumption) rfl ?_))
    refine M.lookupOk_i (kt := 3) (et := 3) (z := vi 0) (by kernel_rfl) (by kernel_rfl) (fun w => Tryz.zeroValue3 w) g4 ?_
    have go : otherW N n i = false → AskO w1 F p most (madeN most N ⟨21, n, i, 0, 0, 0⟩) = AskO w1 F p most (madeN most N ⟨21, n, i, 0, 0, 0⟩) := fun _ => rfl
    have hgood : goodN N ⟨21, n, i, 0, 0, 0⟩ := by
      obtain ⟨m, rfl, h1, h2⟩ := fits_nat hf
      exact ⟨by show 1 ≤ (m : Int) ∧ (m : Int) ≤ 64; omega, by intro k hk; simp [kidsN] at hk, .inr (.inl ⟨rfl, by show 0 ≤ i; omega, by show i ≤ 255; omega, rfl, rfl, rfl⟩)⟩
    have rest : ∀ {R : Kt}, otherW N n i = false → R = AskO w1 F p most (madeN most N ⟨21, n, i, 0, 0, 0⟩) → M.call Tryz.prog 40 #[ptr p, encN ⟨21, n, i, 0, 0, 0⟩] (fun t46 w => M.extract 0 t46 (fun t47 w => M.extract 1 t46 (fun t48 w =>
        M.share (fun K1 w => M.bin .eql t48 (vi 0) (fun t50 w => M.cond t50 (M.nilCheck (ptr p) (fun t52 w => M.fieldAddr 2 t52 (fun t53 w => M.load1 t53 (fun t54 w => M.unit Tryz.prog (Instr.mapUpdate 91 t54 (vi i) (vi n)) (fun _ w => K1 [] w) w) w) w) w) (K1 [] w)) w)
          (fun s1 w => ∀ _ : List Value, R (.tuple #[t47, t48]) w) w) w) w) w1 := by
      rintro R hno rfl
      refine M.call_i (make_ret hd (by omega) (hgood.ok (by omega))) ?_
      rintro _ w2 ⟨F', rfl, h1, h2, h3⟩
      have ha := ask_made (most := most) hG hgood
      have hlen : (madeN most N ⟨21, n, i, 0, 0, 0⟩).1.length ≤ 65536 := by
        rcases ha.len with h | h
        · omega
        · rw [h]; exact hN
      refine M.extract_i rfl ?_
      refine M.extract_i rfl ?_
      refine M.share_i ?_
      refine M.eql_i ?_
      have hcase : (madeN most N ⟨21, n, i, 0, 0, 0⟩ = (N, ((N.idxOf (⟨21, n, i, 0, 0, 0⟩ : Nd) : Nat) : Int), 0) ∧ (⟨21, n, i, 0, 0, 0⟩ : Nd) ∈ N) ∨ madeN most N ⟨21, n, i, 0, 0, 0⟩ = (N, 0, 8) ∨ madeN most N ⟨21, n, i, 0, 0, 0⟩ = (N ++ [⟨21, n, i, 0, 0, 0⟩], (N.length : Int), 0) := by
        unfold madeN
        split
        · rename_i hh; exact .inl ⟨rfl, hh⟩
        · split
          · exact .inr (.inl rfl)
          · exact .inr (.inr rfl)
      have same : ∀ m ∈ N, m.op = 21 → m.a = i → m.wd = n := fun m hm h21 hmi => by
        unfold otherW at hno
        rw [List.any_eq_false] at hno
        have := hno m hm
        simp only [h21, hmi, decide_true, Bool.true_and, decide_eq_true_eq, ne_eq, Classical.not_not] at this
        exact this
      have upd : ∀ (N' : List Nd), (N' = N ∧ (⟨21, n, i, 0, 0, 0⟩ : Nd) ∈ N) ∨ N' = N ++ [⟨21, n, i, 0, 0, 0⟩] → WdR N' (upd kw i (vi n)) := fun N' hN' => by
        have hin : (⟨21, n, i, 0, 0, 0⟩ : Nd) ∈ N' := by
          rcases hN' with ⟨rfl, h⟩ | rfl
          · exact h
          · simp
        have hsub : ∀ m ∈ N', m ∈ N ∨ m = ⟨21, n, i, 0, 0, 0⟩ := fun m hm => by
          rcases hN' with ⟨rfl, h⟩ | rfl
          · exact .inl hm
          · rcases List.mem_append.1 hm with h | h
            · exact .inl h
            · simp at h; exact .inr h
        have hsup : ∀ m ∈ N, m ∈ N' := fun m hm => by
          rcases hN' with ⟨rfl, h⟩ | rfl
          · exact hm
          · exact List.mem_append_left _ hm
        refine ⟨fun m hmem h21 => ?_, fun j v hv => ?_⟩
        · rw [lkp_upd]
          rcases hsub m hmem with h | rfl
          · by_cases hmi : m.a = i
            · rw [if_pos hmi, same m h h21 hmi]
            · rw [if_neg hmi]; exact hw.1 m h h21
          · rw [if_pos rfl]
        · rw [lkp_upd] at hv
          by_cases hji : j = i
          · rw [if_pos hji] at hv
            cases hv
            exact ⟨_, hin, rfl, hji.symm, rfl⟩
          · rw [if_neg hji] at hv
            obtain ⟨m, h, h'⟩ := hw.2 j v hv
            exact ⟨m, hsup m h, h'⟩
      obtain ⟨v', s1, s2, kv', e1, e2, e3, e4, e5, e6, e7, e8, e9, e10⟩ := id h1
      by_cases he : (madeN most N ⟨21, n, i, 0, 0, 0⟩).2.2 = 0
      · rw [decide_eq_true he]
        (repeat (first|refine jb ?_|refine jc ?_|refine jo ?_|refine jN (by assumption) rfl ?_))
        refine M.mapUpdate_i (kt := 3) (et := 3) (by kernel_rfl) (by kernel_rfl) e4 (fun w3 m3 k3 s3 => ?_)
        intro _
        have hs2 : F' s2 := (e6 s2).2 (.inr (.inr (.inl rfl)))
        refine ⟨F', rfl, ⟨_, ⟨v', s1, s2, kv', e1.keep k3 e9, (GC.own e2).keep k3 (fun b _ hb h => (e10 b hb).2.2 h) |>.mono (fun b _ hb => (e6 b).2 (.inr (.inr (.inr hb)))), e3.keep k3 e7, m3, e5, e6, e7, e8, e9, e10⟩, ?_, ha.good, hlen, hm⟩, h2, ?_⟩
        · rcases hcase with ⟨hc, hmem⟩ | hc | hc
          · exact upd _ (.inl ⟨by rw [hc], hmem⟩)
          · rw [hc] at he; exact absurd he (by show ¬ (8 : Int) = 0; omega)
          · exact upd _ (.inr (by rw [hc]))
        · refine h3.trans k3 (fun b hb h => ?_)
          exact h2 b hb (h ▸ hs2)
      · rw [decide_eq_false he]
        (repeat (refine jp ?_))
        intro _
        refine ⟨F', rfl, ⟨kw, h1, ?_, ha.good, hlen, hm⟩, h2, h3⟩
        rcases hcase with ⟨hc, hmem⟩ | hc | hc
        · rw [hc] at he; exact absurd rfl he
        · rw [hc]; exact hw
        · rw [hc] at he; exact absurd rfl he
    refine M.extract_i rfl ?_
    refine M.extract_i rfl ?_
    cases hl : lkp kw i with
    | none =>
      rw [hl] at ho
      simp only at ho
      rw [if_neg (by simp [ho])]
      (repeat (first|refine jh ?_|refine jl ?_|refine jp ?_))
      refine M.pure_i (encN ⟨21, n, i, 0, 0, 0⟩) (fun _ => by kernel_rfl) ?_
      exact rest ho rfl
    | some v0 =>
      obtain ⟨m0, hm0, h21, hmi, rfl⟩ := hw.2 i v0 hl
      rw [hl] at ho
      simp only at ho
      by_cases hne : m0.wd = n
      · rw [decide_eq_false (by simpa using hne)] at ho
        rw [if_neg (by simp [ho])]
        (repeat (first|refine jf ?_|refine jk ?_|refine jp ?_|refine jJ ?_))
        refine M.pure_i (encN ⟨21, n, i, 0, 0, 0⟩) (fun _ => by kernel_rfl) ?_
        exact rest ho rfl
      · rw [decide_eq_true (by simpa using hne)] at ho
        rw [if_pos ho]
        (repeat (first|refine jf ?_|refine jk ?_|refine jo ?_|refine jI ?_))
        exact AskO.same (Keep.refl _ _) h 0 2
end
end Go.Proofs.YtnbcglnefoinlaaGreat
namespace Go.Proofs.YtnbcglnefoinlaaGreat
open Go.Mw Go.Maps Go.MapKept
set_option linter.unusedVariables false
set_option linter.unusedSimpArgs false
set_option maxRecDepth 100000
attribute [local irreducible] M.val M.unit M.next M.pick M.new M.nilCheck M.load1 M.loadA M.store M.fieldAddr M.indexSl M.indexArr M.slice M.makeSlice M.buildSlice M.len M.lenS M.cap M.append M.extract M.conv M.not M.neg M.bin M.shift M.eqB M.eqNil M.scat M.call M.callv M.gd M.share M.cond M.loop M.draw pureW readW Ret
section
variable {w : World} {F : Nat → Prop} {p : Nat} {N : List Nd} {most : Int}
theorem DagO.none (h : DagO w F p N most) {D : Nat → Prop} {v : Value} {ids : List Int} (hl : LV vi w D v ids) (hf : ids.length ≤ 1000000) :
    Ret Tryz.prog 41 #[ptr p, v] w (fun r w' => r = .bool (ids.any (fun i => !isN N i)) ∧ w' = w) := by
  obtain ⟨kw, hd, _⟩ := h
  exact none_ret hd hl hf
theorem DagO.width (h : DagO w F p N most) (i : Int) :
    Ret Tryz.prog 42 #[ptr p, vi i] w (fun r w' => r = vi (wdN N i) ∧ Keep w w' No) := by
  obtain ⟨kw, hd, _⟩ := h
  exact width_ret hd i
theorem DagO.node (h : DagO w F p N most) (i : Int) :
    Ret Tryz.prog 28 #[ptr p, vi i] w (fun r w' => r = .tuple #[encN (nodeAt N i), .bool (isN N i)] ∧ Keep w w' No) := by
  obtain ⟨kw, hd, _⟩ := h
  exact node_ret hd i
theorem DagO.dlen (h : DagO w F p N most) : Ret Tryz.prog 25 #[ptr p] w (fun r w' => r = vi N.length ∧ w' = w) := by
  obtain ⟨kw, hd, _⟩ := h
  exact dlen_ret hd
theorem blk1 {w : World} {b : Nat} {x : Int} (h : Blk w b [vi x]) : LV vi w (fun _ => True) (.slice (some ⟨b, 0, none⟩) 1 1) [x] := ⟨_, _, rfl, Row.of_blk' h trivial, Nat.le_refl _⟩
theorem blk2 {w : World} {b : Nat} {x y : Int} (h : Blk w b [vi x, vi y]) : LV vi w (fun _ => True) (.slice (some ⟨b, 0, none⟩) 2 2) [x, y] := ⟨_, _, rfl, Row.of_blk' h trivial, Nat.le_refl _⟩
theorem blk3 {w : World} {b : Nat} {x y z : Int} (h : Blk w b [vi x, vi y, vi z]) : LV vi w (fun _ => True) (.slice (some ⟨b, 0, none⟩) 3 3) [x, y, z] := ⟨_, _, rfl, Row.of_blk' h trivial, Nat.le_refl _⟩
theorem unary_ret (h : DagO w F p N most) (op a : Int) :
    Ret Tryz.prog 45 #[ptr p, vi op, vi a] w (AskO w F p most (unaryN most N op a)) := by
  refine ok45 _ _ _ _ _ ?_
  unfold sh45
  unfold unaryN
  by_cases ho : op ≠ 15 ∧ op ≠ 16
  · have h1 := ho.1
    have h2 := ho.2
    rw [if_pos ho]
    (repeat (first|refine jf ?_|refine jk ?_|refine jo ?_|refine jp ?_|refine jt ?_|refine jI ?_))
    exact AskO.same (Keep.refl _ _) h 0 3
  rw [if_neg ho]
  have go : ∀ {R : Kt}, R = AskO w F p most (if isN N a = false then (N, 0, 11) else madeN most N ⟨op, wdN N a, a, 0, 0, 0⟩) → M.buildSlice 3 1 #[.int .i64 0] 1 [(0, vi a)] (fun t21 w => M.call Tryz.prog 41 #[ptr p, t21] (fun t22 w => M.cond t22 (R (.tuple #[vi 0, vi 11]) w)
      (M.call Tryz.prog 42 #[ptr p, vi a] (fun t27 w => pureW Tryz.prog (Instr.build 73 #[(0, vi op), (1, t27), (2, vi a)]) (fun t29 w => M.call Tryz.prog 40 #[ptr p, t29] (fun t30 w => M.extract 0 t30 (fun t31 w => M.extract 1 t30 (fun t32 w => R (.tuple #[t31, t32]) w) w) w) w) w) w)) w) w := by
    rintro R rfl
    refine M.buildSlice_i [vi a] (by kernel_rfl) (fun w1 b1 k1 s1 => ?_)
    have h1 := h.keepN k1
    refine M.call_i (h1.none (blk1 b1) (by show 1 ≤ 1000000; omega)) ?_; rintro _ w2 ⟨rfl, rfl⟩
    rw [show ([a] : List Int).any (fun i => !isN N i) = !isN N a by simp]
    cases ha : isN N a with
    | false =>
      rw [if_pos rfl]
      (repeat (refine jo ?_))
      exact AskO.same k1 h1 0 11
    | true =>
      rw [if_neg (by simp)]
      (repeat (refine jp ?_))
      refine M.call_i (h1.width a) ?_; rintro _ w3 ⟨rfl, k3⟩
      refine M.pure_i (encN ⟨op, wdN N a, a, 0, 0, 0⟩) (fun _ => by kernel_rfl) ?_
      have hg : goodN N ⟨op, wdN N a, a, 0, 0, 0⟩ := by
        refine ⟨h.good.wd ha, fun k hk => ?_, .inr (.inr (.inl ⟨by show op = 15 ∨ op = 16; omega, rfl, rfl, rfl, rfl⟩))⟩
        unfold kidsN at hk
        rw [if_neg (by show ¬ (op = 20 ∨ op = 21); omega), if_neg (by show ¬ op = 22; omega), if_neg (by show ¬ (op ≤ 14 ∨ op = 24); omega)] at hk
        simp at hk; subst hk; exact ha
      refine M.call_i (makeO (h1.keepN k3) hg (by show op ≠ 21; omega)) ?_
      rintro _ w4 ⟨F', rfl, h4⟩
      refine M.extract_i rfl ?_
      refine M.extract_i rfl ?_
      exact AskO.from (k1.trans k3 (fun _ _ h => h)) ⟨F', rfl, h4⟩
  rcases (by omega : op = 15 ∨ op = 16) with rfl | rfl
  · (repeat (first|refine jh ?_|refine jl ?_|refine jp ?_|refine jt ?_|refine jJ ?_))
    exact go rfl
  · (repeat (first|refine jf ?_|refine jk ?_|refine jp ?_|refine jt ?_|refine jI ?_|refine jJ ?_))
    exact go rfl
theorem concat_ret (h : DagO w F p N most) (a b : Int) :
    Ret Tryz.prog 48 #[ptr p, vi a, vi b] w (AskO w F p most (concatN most N a b)) := by
  refine ok48 _ _ _ _ _ ?_
  unfold sh48
  unfold concatN
  (repeat (first|refine jp ?_|refine jt ?_))
  refine M.buildSlice_i [vi a, vi b] (by kernel_rfl) (fun w1 b1 k1 s1 => ?_)
  have h1 := h.keepN k1
  refine M.call_i (h1.none (blk2 b1) (by show 2 ≤ 1000000; omega)) ?_; rintro _ w2 ⟨rfl, rfl⟩
  by_cases hab : isN N a = false ∨ isN N b = false
  · rw [if_pos hab, show ([a, b] : List Int).any (fun i => !isN N i) = true by rcases hab with h | h <;> simp [h]]
    (repeat (refine jo ?_))
    exact AskO.same k1 h1 0 11
  · have ha : isN N a = true := by
      cases hh : isN N a
      · exact absurd (.inl hh) hab
      · rfl
    have hb : isN N b = true := by
      cases hh : isN N b
      · exact absurd (.inr hh) hab
      · rfl
    rw [if_neg hab, show ([a, b] : List Int).any (fun i => !isN N i) = false by simp [ha, hb]]
    have hwa := h.good.wd ha
    have hwb := h.good.wd hb
    (repeat (refine jp ?_))
    refine M.call_i (h1.width a) ?_; rintro _ w3 ⟨rfl, k3⟩
    refine M.call_i ((h1.keepN k3).width b) ?_; rintro _ w4 ⟨rfl, k4⟩
    have k14 := (k1.trans k3 (fun _ _ h => h)).trans k4 (fun _ _ h => h)
    have h4 := h.keepN k14
    by_cases hw : 64 < wdN N a + wdN N b
    · rw [if_pos hw]
      (repeat (first|refine jo ?_|refine jC ?_|refine jK ?_))
      exact AskO.same k14 h4 0 2
    · rw [if_neg hw]
      (repeat (first|refine jp ?_|refine jD ?_|refine jK ?_))
      refine M.pure_i (encN ⟨24, wdN N a + wdN N b, a, b, 0, 0⟩) (fun _ => by kernel_rfl) ?_
      have hg : goodN N ⟨24, wdN N a + wdN N b, a, b, 0, 0⟩ := by
        refine ⟨by show 1 ≤ wdN N a + wdN N b ∧ wdN N a + wdN N b ≤ 64; omega, fun k hk => ?_, .inr (.inr (.inr (.inr (.inr (.inr (.inl ⟨rfl, rfl, rfl, rfl⟩))))))⟩
        simp [kidsN] at hk
        rcases hk with rfl | rfl
        · exact ha
        · exact hb
      refine M.call_i (makeO h4 hg (by show (24 : Int) ≠ 21; omega)) ?_
      rintro _ w5 ⟨F', rfl, h5⟩
      refine M.extract_i rfl ?_
      refine M.extract_i rfl ?_
      exact AskO.from k14 ⟨F', rfl, h5⟩
set_option maxHeartbeats 1000000 in
theorem binary_ret (h : DagO w F p N most) (op a b : Int) :
    Ret Tryz.prog 18 #[ptr p, vi op, vi a, vi b] w (AskO w F p most (binaryN most N op a b)) := by
  refine ok18 _ _ _ _ _ _ ?_
  unfold sh18
  unfold binaryN
  by_cases ho1 : op < 1
  · rw [if_pos (.inl ho1)]
    (repeat (first|refine ji ?_|refine jk ?_|refine jo ?_|refine jp ?_|refine jt ?_|refine jy ?_))
    exact AskO.same (Keep.refl _ _) h 0 3
  by_cases ho2 : 14 < op
  · rw [if_pos (.inr ho2)]
    (repeat (first|refine jg ?_|refine jl ?_|refine jo ?_|refine jp ?_|refine jt ?_|refine jz ?_|refine jC ?_))
    exact AskO.same (Keep.refl _ _) h 0 3
  rw [if_neg (by omega)]
  (repeat (first|refine jg ?_|refine jl ?_|refine jp ?_|refine jt ?_|refine jz ?_|refine jD ?_))
  refine M.buildSlice_i [vi a, vi b] (by kernel_rfl) (fun w1 b1 k1 s1 => ?_)
  have h1 := h.keepN k1
  refine M.call_i (h1.none (blk2 b1) (by show 2 ≤ 1000000; omega)) ?_; rintro _ w2 ⟨rfl, rfl⟩
  by_cases hab : isN N a = false ∨ isN N b = false
  · rw [if_pos hab, show ([a, b] : List Int).any (fun i => !isN N i) = true by rcases hab with h | h <;> simp [h]]
    (repeat (refine jo ?_))
    exact AskO.same k1 h1 0 11
  · have ha : isN N a = true := by
      cases hh : isN N a
      · exact absurd (.inl hh) hab
      · rfl
    have hb : isN N b = true := by
      cases hh : isN N b
      · exact absurd (.inr hh) hab
      · rfl
    rw [if_neg hab, show ([a, b] : List Int).any (fun i => !isN N i) = false by simp [ha, hb]]
    have hwa := h.good.wd ha
    (repeat (refine jp ?_))
    refine M.call_i (h1.width a) ?_; rintro _ w3 ⟨rfl, k3⟩
    refine M.call_i ((h1.keepN k3).width b) ?_; rintro _ w4 ⟨rfl, k4⟩
    have k14 := (k1.trans k3 (fun _ _ h => h)).trans k4 (fun _ _ h => h)
    have h4 := h.keepN k14
    by_cases hw : wdN N a = wdN N b
    rotate_left
    · rw [if_pos hw]
      (repeat (first|refine jo ?_|refine jI ?_))
      exact AskO.same k14 h4 0 2
    · rw [if_neg (by simpa using hw)]
      (repeat (first|refine jp ?_|refine jJ ?_))
      refine M.call_i (h4.width a) ?_; rintro _ w5 ⟨rfl, k5⟩
      have k15 := k14.trans k5 (fun _ _ h => h)
      have h5 := h.keepN k15
      refine M.share_j (fun vals w' => vals = [vi (if 12 ≤ op then 1 else wdN N a)] ∧ w' = w5) ?_ ?_
      · rintro vals w6 ⟨rfl, rfl⟩ _
        simp only [List.getD_cons_zero, List.getD_cons_succ]
        refine M.pure_i (encN ⟨op, if 12 ≤ op then 1 else wdN N a, a, b, 0, 0⟩) (fun _ => by kernel_rfl) ?_
        have hg : goodN N ⟨op, if 12 ≤ op then 1 else wdN N a, a, b, 0, 0⟩ := by
          refine ⟨?_, fun k hk => ?_, .inr (.inr (.inr (.inl ⟨by show 1 ≤ op; omega, by show op ≤ 14; omega, hw, rfl, rfl, rfl⟩)))⟩
          · show 1 ≤ (if 12 ≤ op then (1 : Int) else wdN N a) ∧ (if 12 ≤ op then (1 : Int) else wdN N a) ≤ 64
            split <;> omega
          · unfold kidsN at hk
            rw [if_neg (by show ¬ (op = 20 ∨ op = 21); omega), if_neg (by show ¬ op = 22; omega), if_pos (by show op ≤ 14 ∨ op = 24; omega)] at hk
            simp at hk
            rcases hk with rfl | rfl
            · exact ha
            · exact hb
        refine M.call_i (makeO h5 hg (by show op ≠ 21; omega)) ?_
        rintro _ w7 ⟨F', rfl, h7⟩
        refine M.extract_i rfl ?_
        refine M.extract_i rfl ?_
        exact AskO.from k15 ⟨F', rfl, h7⟩
      · intro K hK
        by_cases h12 : 12 ≤ op
        · rw [if_pos h12] at hK
          rcases (by omega : op = 12 ∨ op = 13 ∨ op = 14) with rfl | rfl | rfl
          · (repeat (first|refine ji ?_|refine jk ?_|refine jo ?_|refine jG ?_))
            exact hK _ _ ⟨rfl, rfl⟩
          · (repeat (first|refine jg ?_|refine ji ?_|refine jk ?_|refine jl ?_|refine jo ?_|refine jG ?_|refine jH ?_))
            exact hK _ _ ⟨rfl, rfl⟩
          · (repeat (first|refine jg ?_|refine jl ?_|refine jo ?_|refine jG ?_|refine jH ?_))
            exact hK _ _ ⟨rfl, rfl⟩
        · rw [if_neg h12] at hK
          (repeat (first|refine jg ?_|refine jl ?_|refine jp ?_|refine jH ?_))
          exact hK _ _ ⟨rfl, rfl⟩
set_option maxHeartbeats 1000000 in
theorem ite_ret (h : DagO w F p N most) (c a b : Int) :
    Ret Tryz.prog 46 #[ptr p, vi c, vi a, vi b] w (AskO w F p most (iteN most N c a b)) := by
  refine ok46 _ _ _ _ _ _ ?_
  unfold sh46
  unfold iteN
  (repeat (first|refine jp ?_|refine jt ?_))
  refine M.buildSlice_i [vi c, vi a, vi b] (by kernel_rfl) (fun w1 b1 k1 s1 => ?_)
  have h1 := h.keepN k1
  refine M.call_i (h1.none (blk3 b1) (by show 3 ≤ 1000000; omega)) ?_; rintro _ w2 ⟨rfl, rfl⟩
  by_cases hab : isN N c = false ∨ isN N a = false ∨ isN N b = false
  · rw [if_pos hab, show ([c, a, b] : List Int).any (fun i => !isN N i) = true by rcases hab with h | h | h <;> simp [h]]
    (repeat (refine jo ?_))
    exact AskO.same k1 h1 0 11
  · have hc : isN N c = true := by
      cases hh : isN N c
      · exact absurd (.inl hh) hab
      · rfl
    have ha : isN N a = true := by
      cases hh : isN N a
      · exact absurd (.inr (.inl hh)) hab
      · rfl
    have hb : isN N b = true := by
      cases hh : isN N b
      · exact absurd (.inr (.inr hh)) hab
      · rfl
    rw [if_neg hab, show ([c, a, b] : List Int).any (fun i => !isN N i) = false by simp [hc, ha, hb]]
    (repeat (refine jp ?_))
    refine M.call_i (h1.width c) ?_; rintro _ w3 ⟨rfl, k3⟩
    have k13 := k1.trans k3 (fun _ _ h => h)
    by_cases hw1 : wdN N c = 1
    rotate_left
    · rw [if_pos (.inl hw1)]
      (repeat (first|refine ji ?_|refine jk ?_|refine jo ?_|refine jI ?_))
      exact AskO.same k13 (h.keepN k13) 0 2
    · (repeat (first|refine jg ?_|refine jJ ?_))
      refine M.call_i ((h.keepN k13).width a) ?_; rintro _ w4 ⟨rfl, k4⟩
      have k14 := k13.trans k4 (fun _ _ h => h)
      (repeat (refine jg ?_))
      refine M.call_i ((h.keepN k14).width b) ?_; rintro _ w5 ⟨rfl, k5⟩
      have k15 := k14.trans k5 (fun _ _ h => h)
      have h5 := h.keepN k15
      by_cases hw : wdN N a = wdN N b
      rotate_left
      · rw [if_pos (.inr hw)]
        (repeat (first|refine jg ?_|refine jl ?_|refine jo ?_|refine jI ?_))
        exact AskO.same k15 h5 0 2
      · rw [if_neg (by omega)]
        (repeat (first|refine jg ?_|refine jl ?_|refine jp ?_|refine jJ ?_))
        refine M.call_i (h5.width a) ?_; rintro _ w6 ⟨rfl, k6⟩
        have k16 := k15.trans k6 (fun _ _ h => h)
        refine M.pure_i (encN ⟨22, wdN N a, c, a, b, 0⟩) (fun _ => by kernel_rfl) ?_
        have hg : goodN N ⟨22, wdN N a, c, a, b, 0⟩ := by
          refine ⟨h.good.wd ha, fun k hk => ?_, .inr (.inr (.inr (.inr (.inl ⟨rfl, hw1, hw, rfl, rfl⟩))))⟩
          simp [kidsN] at hk
          rcases hk with rfl | rfl | rfl
          · exact hc
          · exact ha
          · exact hb
        refine M.call_i (makeO (h.keepN k16) hg (by show (22 : Int) ≠ 21; omega)) ?_
        rintro _ w7 ⟨F', rfl, h7⟩
        refine M.extract_i rfl ?_
        refine M.extract_i rfl ?_
        exact AskO.from k16 ⟨F', rfl, h7⟩
set_option maxHeartbeats 1000000 in
theorem extract_ret (h : DagO w F p N most) (a lo n : Int) :
    Ret Tryz.prog 47 #[ptr p, vi a, vi lo, vi n] w (AskO w F p most (extractN most N a lo n)) := by
  refine ok47 _ _ _ _ _ _ ?_
  unfold sh47
  unfold extractN
  (repeat (first|refine jp ?_|refine jt ?_))
  refine M.buildSlice_i [vi a] (by kernel_rfl) (fun w1 b1 k1 s1 => ?_)
  have h1 := h.keepN k1
  refine M.call_i (h1.none (blk1 b1) (by show 1 ≤ 1000000; omega)) ?_; rintro _ w2 ⟨rfl, rfl⟩
  rw [show ([a] : List Int).any (fun i => !isN N i) = !isN N a by simp]
  cases ha : isN N a with
  | false =>
    rw [if_pos rfl]
    (repeat (refine jo ?_))
    exact AskO.same k1 h1 0 11
  | true =>
    have hwa := h.good.wd ha
    rw [if_neg (by simp)]
    by_cases hn1 : n < 1
    · rw [if_pos (.inl hn1)]
      (repeat (first|refine ji ?_|refine jk ?_|refine jo ?_|refine jp ?_|refine jy ?_))
      exact AskO.same k1 h1 0 2
    by_cases hlo : lo < 0
    · rw [if_pos (.inr (.inl hlo))]
      (repeat (first|refine jg ?_|refine ji ?_|refine jk ?_|refine jl ?_|refine jo ?_|refine jp ?_|refine jy ?_|refine jz ?_))
      exact AskO.same k1 h1 0 2
    (repeat (first|refine jg ?_|refine jl ?_|refine jp ?_|refine jz ?_))
    refine M.call_i (h1.width a) ?_; rintro _ w3 ⟨rfl, k3⟩
    have k13 := k1.trans k3 (fun _ _ h => h)
    by_cases hnw : wdN N a < n
    · rw [if_pos (.inr (.inr (.inl hnw)))]
      (repeat (first|refine jg ?_|refine ji ?_|refine jk ?_|refine jl ?_|refine jo ?_|refine jC ?_))
      exact AskO.same k13 (h.keepN k13) 0 2
    (repeat (first|refine jg ?_|refine jl ?_|refine jD ?_))
    refine M.call_i ((h.keepN k13).width a) ?_; rintro _ w4 ⟨rfl, k4⟩
    have k14 := k13.trans k4 (fun _ _ h => h)
    have h4 := h.keepN k14
    by_cases hlw : wdN N a - n < lo
    · rw [if_pos (.inr (.inr (.inr hlw)))]
      (repeat (first|refine jg ?_|refine jl ?_|refine jo ?_|refine jC ?_|refine jL ?_))
      exact AskO.same k14 h4 0 2
    rw [if_neg (by omega)]
    (repeat (first|refine jg ?_|refine jl ?_|refine jp ?_|refine jD ?_|refine jL ?_))
    refine M.pure_i (encN ⟨23, n, a, lo, 0, 0⟩) (fun _ => by kernel_rfl) ?_
    have hg : goodN N ⟨23, n, a, lo, 0, 0⟩ := by
      refine ⟨by show 1 ≤ n ∧ n ≤ 64; omega, fun k hk => ?_, .inr (.inr (.inr (.inr (.inr (.inl ⟨rfl, by show 0 ≤ lo; omega, by show lo ≤ 64; omega, by show lo + n ≤ wdN N a; omega, rfl, rfl⟩)))))⟩
      simp [kidsN] at hk
      subst hk; exact ha
    refine M.call_i (makeO h4 hg (by show (23 : Int) ≠ 21; omega)) ?_
    rintro _ w5 ⟨F', rfl, h5⟩
    refine M.extract_i rfl ?_
    refine M.extract_i rfl ?_
    exact AskO.from k14 ⟨F', rfl, h5⟩
set_option maxHeartbeats 1000000 in
theorem extend_ret (h : DagO w F p N most) (a n : Int) (sg : Bool) :
    Ret Tryz.prog 49 #[ptr p, vi a, vi n, .bool sg] w (AskO w F p most (extendN most N a n sg)) := by
  refine ok49 _ _ _ _ _ _ ?_
  unfold sh49
  unfold extendN
  (repeat (first|refine jp ?_|refine jt ?_))
  refine M.buildSlice_i [vi a] (by kernel_rfl) (fun w1 b1 k1 s1 => ?_)
  have h1 := h.keepN k1
  refine M.call_i (h1.none (blk1 b1) (by show 1 ≤ 1000000; omega)) ?_; rintro _ w2 ⟨rfl, rfl⟩
  rw [show ([a] : List Int).any (fun i => !isN N i) = !isN N a by simp]
  cases ha : isN N a with
  | false =>
    rw [if_pos rfl]
    (repeat (refine jo ?_))
    exact AskO.same k1 h1 0 11
  | true =>
    have hwa := h.good.wd ha
    rw [if_neg (by simp)]
    (repeat (refine jp ?_))
    refine M.call_i (h1.width a) ?_; rintro _ w3 ⟨rfl, k3⟩
    have k13 := k1.trans k3 (fun _ _ h => h)
    by_cases hn1 : n < wdN N a
    · rw [if_pos (.inl hn1)]
      (repeat (first|refine ji ?_|refine jk ?_|refine jo ?_|refine jy ?_))
      exact AskO.same k13 (h.keepN k13) 0 2
    by_cases hn2 : 64 < n
    · rw [if_pos (.inr hn2)]
      (repeat (first|refine jg ?_|refine jl ?_|refine jo ?_|refine jz ?_|refine jC ?_))
      exact AskO.same k13 (h.keepN k13) 0 2
    rw [if_neg (by omega)]
    (repeat (first|refine jg ?_|refine jl ?_|refine jp ?_|refine jz ?_|refine jD ?_))
    refine M.call_i ((h.keepN k13).width a) ?_; rintro _ w4 ⟨rfl, k4⟩
    have k14 := k13.trans k4 (fun _ _ h => h)
    have h4 := h.keepN k14
    by_cases hnw : n = wdN N a
    · rw [if_pos hnw]
      (repeat (first|refine jo ?_|refine jG ?_))
      exact AskO.same k14 h4 a 0
    rw [if_neg hnw]
    (repeat (first|refine jp ?_|refine jH ?_))
    refine M.pure_i (encN ⟨25, n, a, 0, 0, 0⟩) (fun _ => by kernel_rfl) ?_
    refine M.new_i (l := zeroNd.cells) (fun w5 b5 k5 s5 => ?_)
    refine M.storeAll_i b5 rfl rfl (cells_one _) (fun w6 b6 k6 s6 => ?_)
    refine M.share_j (fun vals w' => Blk w' w4.heap.size (Nd.cells ⟨if sg then 26 else 25, n, a, 0, 0, 0⟩) ∧ Keep w6 w' (· = w4.heap.size)) ?_ ?_
    · rintro vals w7 ⟨b7, k7⟩ _
      refine M.loadAll_i b7 rfl ?_
      have hq := k14.size
      have k17 : Keep w w7 No := ((k14.trans k5 (fun _ _ h => h)).trans k6 (fun b hb h => by omega)).trans k7 (fun b hb h => by omega)
      have hg : goodN N ⟨if sg then 26 else 25, n, a, 0, 0, 0⟩ := by
        refine ⟨by show 1 ≤ n ∧ n ≤ 64; omega, fun k hk => ?_, .inr (.inr (.inr (.inr (.inr (.inr (.inr ⟨?_, ?_, rfl, rfl, rfl⟩))))))⟩
        · cases sg <;> (simp [kidsN] at hk; subst hk; exact ha)
        · cases sg
          · exact .inl rfl
          · exact .inr rfl
        · show wdN N a < n; omega
      refine M.call_i (makeO (h.keepN k17) hg (by show (if sg = true then (26 : Int) else 25) ≠ 21; split <;> omega)) ?_
      rintro _ w8 ⟨F', rfl, h8⟩
      refine M.extract_i rfl ?_
      refine M.extract_i rfl ?_
      exact AskO.from k17 ⟨F', rfl, h8⟩
    · intro K hK
      cases sg with
      | false =>
        (repeat (refine jp ?_))
        exact hK _ _ ⟨b6, Keep.refl _ _⟩
      | true =>
        (repeat (first|refine jc ?_|refine jo ?_))
        have b6' : Blk w6 w4.heap.size [vi 25, vi n, vi a, vi 0, vi 0, vw 0] := b6
        refine M.store_i b6' (by simp) rfl (fun w7 b7 k7 s7 => ?_)
        exact hK _ _ ⟨b7, k7⟩
end
theorem new_ret (most : Int) (w : World) : Ret Tryz.prog 16 #[vi most] w (fun r w' => ∃ F p, r = ptr p ∧ DagO w' F p [] (if most < 0 ∨ 65536 < most then 0 else most) ∧ (∀ b, F b → w.heap.size ≤ b) ∧ Keep w w' No) := by
  refine ok16 _ _ _ ?_
  unfold sh16
  refine M.share_j (fun vals w' => vals = [vi (if most < 0 ∨ 65536 < most then 0 else most)] ∧ w' = w) ?_ ?_
  · rintro vals w1 ⟨rfl, rfl⟩ _
    simp only [List.getD_cons_zero, List.getD_cons_succ]
    refine M.makeMapA_i (enc := encN) (Okk := Nd.Ok) (fun w2 m2 k2 s2 => ?_)
    refine M.makeMap_i (fun w3 m3 k3 s3 => ?_)
    refine M.pure_i (.agg #[.slice none 0 0, .map (some w1.heap.size), .map (some w2.heap.size), vi (if most < 0 ∨ 65536 < most then 0 else most)]) (fun _ => by kernel_rfl) ?_
    refine M.new_i (l := [.slice none 0 0, .map (some w1.heap.size), .map (some w2.heap.size), vi (if most < 0 ∨ 65536 < most then 0 else most)]) (fun w4 b4 k4 s4 => ?_)
    have nb : ∀ b, ¬ blkOf (.slice none 0 0) b := fun b ⟨n, c, h⟩ => by simp at h
    refine ⟨fun b => b = w3.heap.size ∨ b = w1.heap.size ∨ b = w2.heap.size ∨ blkOf (.slice none 0 0) b, w3.heap.size, rfl, ⟨[], ⟨_, w1.heap.size, w2.heap.size, [], b4, GC.nil _ _ _, (m2.keep k3 (fun h => h)).keep k4 (fun h => h), m3.keep k4 (fun h => h), fun n => by simp [lkpA], fun b => Iff.rfl, by omega, by omega, by omega, fun b hb => absurd hb (nb b)⟩, ⟨by simp, fun i v h => by simp [lkp] at h⟩, fun i n h => by simp at h, by simp, by split <;> omega⟩, ?_, (k2.trans k3 (fun _ _ h => h)).trans k4 (fun _ _ h => h)⟩
    rintro b (rfl | rfl | rfl | hb)
    · omega
    · omega
    · omega
    · exact absurd hb (nb b)
  · intro K hK
    by_cases h1 : most < 0
    · rw [if_pos (.inl h1)] at hK
      (repeat (first|refine ji ?_|refine jk ?_|refine jo ?_|refine jy ?_))
      exact hK _ _ ⟨rfl, rfl⟩
    · by_cases h2 : 65536 < most
      · rw [if_pos (.inr h2)] at hK
        (repeat (first|refine jg ?_|refine jl ?_|refine jo ?_|refine jz ?_|refine jC ?_))
        exact hK _ _ ⟨rfl, rfl⟩
      · rw [if_neg (by omega)] at hK
        (repeat (first|refine jg ?_|refine jl ?_|refine jp ?_|refine jz ?_|refine jD ?_))
        exact hK _ _ ⟨rfl, rfl⟩
end Go.Proofs.YtnbcglnefoinlaaGreat
namespace Go.Proofs.YtnbcglnefoinlaaGreat
open Go.Mw Go.Maps Go.MapKept
set_option linter.unusedVariables false
set_option linter.unusedSimpArgs false
set_option maxRecDepth 100000
attribute [local irreducible] M.val M.unit M.next M.pick M.new M.nilCheck M.load1 M.loadA M.store M.fieldAddr M.indexSl M.indexArr M.slice M.makeSlice M.buildSlice M.len M.lenS M.cap M.append M.extract M.conv M.not M.neg M.bin M.shift M.eqB M.eqNil M.scat M.call M.callv M.gd M.share M.cond M.loop M.draw pureW readW Ret
def sh22 (x0 : Value) (R : Kt) (w : World) : Prop :=
  M.new 29 #[.slice none 0 0, .int .i64 0] (fun t2 w =>
  M.share (fun K1 w =>
  M.bin .lss x0 (Value.int IntKind.i64 0) (fun t4 w =>
  M.gd t4 false (fun k w => k x0 w) (fun t6 w =>
  M.gd t4 false (fun k w => M.bin .gtr t6 (Value.int IntKind.i64 65536) k w) (fun t7 w =>
  M.pick t4 (Value.bool true) t7 (fun t8 w =>
  M.cond t8
  (K1 [(Value.int IntKind.i64 0)] w)
  (K1 [x0] w)) w) w) w) w) (fun s1 w => ∀ _ : List Value,
  pureW Tryz.prog (Instr.build 29 #[(1, (s1.getD 0 undef))]) (fun t10 w =>
  M.store 2 t2 t10 (fun _ w =>
  M.loadA 2 t2 (fun r0 w => R r0 w) w) w) w) w) w
theorem ok22 (x0 : Value) (R : Kt) (w : World) (h : sh22 x0 R w) : Ret Tryz.prog 22 #[x0] w R :=
  ret_mk <| calls_of_comp mixed (c := Tryz.f22.body.getD .skip) (args := [x0]) (rs := [(ResultVar.cell 2 29)]) (Ann.seq Ann.text (Ann.join [0] [3, 4, 5, 6, 7, 8] (Ann.seq Ann.text (Ann.cond Ann.text Ann.leaf)) (Ann.seq Ann.text Ann.leaf)))
    Tryz.func22 (by kernel_rfl) (by kernel_rfl)
    (Eq.mp (by kernel_rfl) h)
def sh80 (x0 x1 : Value) (R : Kt) (w : World) : Prop :=
  M.new 29 (Value.cells x0) (fun t2 w =>
  M.new 73 (Value.cells x1) (fun t3 w =>
  M.new 29 #[.slice none 0 0, .int .i64 0] (fun t4 w =>
  M.loop [(Value.int IntKind.i64 0)] (fun s1 K1 w => ∀ _ : List Value,
  M.fieldAddr 0 t2 (fun t10 w =>
  M.load1 t10 (fun t11 w =>
  M.len t11 (fun t12 w =>
  M.bin .lss (s1.getD 0 undef) t12 (fun t13 w =>
  M.cond t13
  (M.draw (fun w =>
  M.fieldAddr 0 t2 (fun t16 w =>
  M.load1 t16 (fun t17 w =>
  M.indexSl 6 t17 (s1.getD 0 undef) (fun t19 w =>
  M.loadA 6 t19 (fun t20 w =>
  M.loadA 6 t3 (fun t21 w =>
  M.val Tryz.prog (do eqGuard .eql 73 (Operand.tmp 20) (Operand.tmp 21) t20 t21; binOp .eql 73 t20 t21) (fun t22 w =>
  ((M.load1 t16 (fun v' _ => v' = t17) w) ∧ M.cond t22
  (M.loadA 2 t2 (fun t23 w =>
  M.store 2 t4 t23 (fun _ w =>
  M.loadA 2 t4 (fun r0 w => R (.tuple #[r0, (s1.getD 0 undef), (Value.int IntKind.i64 0)]) w) w) w) w)
  (M.bin .add (s1.getD 0 undef) (Value.int IntKind.i64 1) (fun t15 w =>
  K1 [t15] w) w))) w) w) w) w) w) w) w)
  (M.fieldAddr 0 t2 (fun t25 w =>
  M.load1 t25 (fun t26 w =>
  M.len t26 (fun t27 w =>
  M.fieldAddr 1 t2 (fun t28 w =>
  M.load1 t28 (fun t29 w =>
  M.bin .geq t27 t29 (fun t30 w =>
  M.cond t30
  (M.loadA 2 t2 (fun t31 w =>
  M.store 2 t4 t31 (fun _ w =>
  M.loadA 2 t4 (fun r0 w => R (.tuple #[r0, (Value.int IntKind.i64 0), (Value.int IntKind.i64 8)]) w) w) w) w)
  (M.fieldAddr 0 t2 (fun t33 w =>
  M.load1 t33 (fun t34 w =>
  M.append 73 6 48 #[.int .i64 0, .int .i64 0, .int .i64 0, .int .i64 0, .int .i64 0, .int .u64 0] (Value.slice none 0 0) t34 (fun t35 w =>
  M.loadA 6 t3 (fun t37 w =>
  M.buildSlice 73 6 #[.int .i64 0, .int .i64 0, .int .i64 0, .int .i64 0, .int .i64 0, .int .u64 0] 1 [(0, t37)] (fun t38 w =>
  M.append 73 6 48 #[.int .i64 0, .int .i64 0, .int .i64 0, .int .i64 0, .int .i64 0, .int .u64 0] t35 t38 (fun t39 w =>
  M.fieldAddr 0 t2 (fun t41 w =>
  M.store 1 t41 t39 (fun _ w =>
  M.draw (fun w =>
  M.loadA 2 t2 (fun t42 w =>
  M.fieldAddr 0 t2 (fun t43 w =>
  M.load1 t43 (fun t44 w =>
  M.len t44 (fun t45 w =>
  M.bin .sub t45 (Value.int IntKind.i64 1) (fun t46 w =>
  M.store 2 t4 t42 (fun _ w =>
  ((M.load1 t43 (fun v' _ => v' = t44) w) ∧ M.loadA 2 t4 (fun r0 w => R (.tuple #[r0, t46, (Value.int IntKind.i64 0)]) w) w)) w) w) w) w) w) w) w) w) w) w) w) w) w) w) w)) w) w) w) w) w) w)) w) w) w) w) w) w) w) w
theorem ok80 (x0 x1 : Value) (R : Kt) (w : World) (h : sh80 x0 x1 R w) : Ret Tryz.prog 80 #[x0, x1] w R :=
  ret_mk <| calls_of_comp mixed (c := Tryz.f80.body.getD .skip) (args := [x0, x1]) (rs := [(ResultVar.cell 4 29), (ResultVar.tmp 5), (ResultVar.tmp 6)]) (Ann.seq Ann.text (Ann.seq (Ann.seq Ann.text (Ann.block (Ann.loop [7] [5, 6, 9, 10, 11, 12, 13, 14, 15, 16, 17, 18, 19, 20, 21, 22, 23, 24] (Ann.seq (Ann.seq Ann.text (Ann.cond Ann.leaf Ann.leaf)) (Ann.seq (Ann.block (Ann.seq (Ann.draw (Sch.take 0 (Sch.take 1 (Sch.take 2 (Sch.take 3 (Sch.take 4 (Sch.take 5 (Sch.one 6 Sch.done)))))))) (Ann.cond (Ann.seq Ann.text Ann.leaf) Ann.leaf))) Ann.text))))) (Ann.seq (Ann.seq Ann.text (Ann.cond (Ann.seq Ann.text Ann.leaf) Ann.leaf)) (Ann.seq Ann.text (Ann.seq Ann.text (Ann.seq Ann.text (Ann.seq Ann.text (Ann.seq (Ann.draw (Sch.take 0 (Sch.take 1 (Sch.take 2 (Sch.take 3 (Sch.take 4 (Sch.one 5 (Sch.take 6 (Sch.take 7 Sch.done))))))))) Ann.leaf))))))))
    Tryz.func80 (by kernel_rfl) (by kernel_rfl)
    (Eq.mp (by kernel_rfl) h)
def sh38 (x0 x1 : Value) (R : Kt) (w : World) : Prop :=
  M.new 29 (Value.cells x0) (fun t2 w =>
  M.bin .geq x1 (Value.int IntKind.i64 0) (fun t6 w =>
  M.gd t6 true (fun k w => k x1 w) (fun t8 w =>
  M.gd t6 true (fun k w => M.fieldAddr 0 t2 k w) (fun t9 w =>
  M.gd t6 true (fun k w => M.load1 t9 k w) (fun t10 w =>
  M.gd t6 true (fun k w => M.len t10 k w) (fun t11 w =>
  M.gd t6 true (fun k w => M.bin .lss t8 t11 k w) (fun t12 w =>
  M.pick t6 t12 (Value.bool false) (fun t13 w =>
  R t13 w) w) w) w) w) w) w) w) w
theorem ok38 (x0 x1 : Value) (R : Kt) (w : World) (h : sh38 x0 x1 R w) : Ret Tryz.prog 38 #[x0, x1] w R :=
  ret_mk <| calls_of_comp mixed (c := Tryz.f38.body.getD .skip) (args := [x0, x1]) (rs := [(ResultVar.tmp 4)]) (Ann.seq Ann.text (Ann.seq Ann.text Ann.leaf))
    Tryz.func38 (by kernel_rfl) (by kernel_rfl)
    (Eq.mp (by kernel_rfl) h)
def sh15 (x0 x1 : Value) (R : Kt) (w : World) : Prop :=
  M.new 29 (Value.cells x0) (fun t2 w =>
  M.loadA 2 t2 (fun t5 w =>
  M.call Tryz.prog 38 #[t5, x1] (fun t7 w =>
  M.not t7 (fun t8 w =>
  M.cond t8
  (R (Value.int IntKind.i64 0) w)
  (M.fieldAddr 0 t2 (fun t9 w =>
  M.load1 t9 (fun t10 w =>
  M.indexSl 6 t10 x1 (fun t12 w =>
  M.fieldAddr 1 t12 (fun t13 w =>
  M.load1 t13 (fun t14 w =>
  R t14 w) w) w) w) w) w)) w) w) w) w
theorem ok15 (x0 x1 : Value) (R : Kt) (w : World) (h : sh15 x0 x1 R w) : Ret Tryz.prog 15 #[x0, x1] w R :=
  ret_mk <| calls_of_comp mixed (c := Tryz.f15.body.getD .skip) (args := [x0, x1]) (rs := [(ResultVar.tmp 4)]) (Ann.seq Ann.text (Ann.seq (Ann.seq Ann.text (Ann.cond (Ann.seq Ann.text Ann.leaf) Ann.leaf)) (Ann.seq Ann.text Ann.leaf)))
    Tryz.func15 (by kernel_rfl) (by kernel_rfl)
    (Eq.mp (by kernel_rfl) h)
def sh50 (x0 x1 x2 : Value) (R : Kt) (w : World) : Prop :=
  M.new 29 (Value.cells x0) (fun t3 w =>
  M.new 29 #[.slice none 0 0, .int .i64 0] (fun t6 w =>
  M.call Tryz.prog 79 #[x1] (fun t10 w =>
  M.not t10 (fun t11 w =>
  M.cond t11
  (M.loadA 2 t3 (fun t12 w =>
  M.store 2 t6 t12 (fun _ w =>
  M.loadA 2 t6 (fun r0 w => R (.tuple #[r0, (Value.int IntKind.i64 0), (Value.int IntKind.i64 2)]) w) w) w) w)
  (M.draw (fun w =>
  M.loadA 2 t3 (fun t13 w =>
  M.call Tryz.prog 37 #[x1, x2] (fun t17 w =>
  ((M.loadA 2 t3 (fun v' _ => v' = t13) w) ∧ pureW Tryz.prog (Instr.build 73 #[(0, (Value.int IntKind.i64 20)), (1, x1), (5, t17)]) (fun t18 w =>
  M.call Tryz.prog 80 #[t13, t18] (fun t19 w =>
  M.extract 0 t19 (fun t20 w =>
  M.extract 1 t19 (fun t21 w =>
  M.extract 2 t19 (fun t22 w =>
  M.store 2 t6 t20 (fun _ w =>
  M.loadA 2 t6 (fun r0 w => R (.tuple #[r0, t21, t22]) w) w) w) w) w) w) w) w)) w) w) w)) w) w) w) w
theorem ok50 (x0 x1 x2 : Value) (R : Kt) (w : World) (h : sh50 x0 x1 x2 R w) : Ret Tryz.prog 50 #[x0, x1, x2] w R :=
  ret_mk <| calls_of_comp mixed (c := Tryz.f50.body.getD .skip) (args := [x0, x1, x2]) (rs := [(ResultVar.cell 6 29), (ResultVar.tmp 7), (ResultVar.tmp 8)]) (Ann.seq Ann.text (Ann.seq (Ann.seq Ann.text (Ann.cond (Ann.seq Ann.text Ann.leaf) Ann.leaf)) (Ann.seq (Ann.draw (Sch.take 0 (Sch.take 1 (Sch.take 2 (Sch.take 3 (Sch.one 4 (Sch.take 5 (Sch.one 6 (Sch.take 7 (Sch.take 8 (Sch.take 9 (Sch.one 10 (Sch.take 11 (Sch.take 12 Sch.done)))))))))))))) Ann.leaf)))
    Tryz.func50 (by kernel_rfl) (by kernel_rfl)
    (Eq.mp (by kernel_rfl) h)
def sh51 (x0 x1 x2 : Value) (R : Kt) (w : World) : Prop :=
  M.new 29 (Value.cells x0) (fun t3 w =>
  M.new 29 #[.slice none 0 0, .int .i64 0] (fun t6 w =>
  M.call Tryz.prog 79 #[x1] (fun t11 w =>
  M.not t11 (fun t12 w =>
  M.cond t12
  (M.loadA 2 t3 (fun t13 w =>
  M.store 2 t6 t13 (fun _ w =>
  M.loadA 2 t6 (fun r0 w => R (.tuple #[r0, (Value.int IntKind.i64 0), (Value.int IntKind.i64 2)]) w) w) w) w)
  (M.bin .lss x2 (Value.int IntKind.i64 0) (fun t15 w =>
  M.gd t15 false (fun k w => k x2 w) (fun t17 w =>
  M.gd t15 false (fun k w => M.bin .gtr t17 (Value.int IntKind.i64 255) k w) (fun t18 w =>
  M.pick t15 (Value.bool true) t18 (fun t19 w =>
  M.cond t19
  (M.loadA 2 t3 (fun t20 w =>
  M.store 2 t6 t20 (fun _ w =>
  M.loadA 2 t6 (fun r0 w => R (.tuple #[r0, (Value.int IntKind.i64 0), (Value.int IntKind.i64 10)]) w) w) w) w)
  (M.loop [(Value.int IntKind.i64 0)] (fun s1 K1 w => ∀ _ : List Value,
  M.fieldAddr 0 t3 (fun t22 w =>
  M.load1 t22 (fun t23 w =>
  M.len t23 (fun t24 w =>
  M.bin .lss (s1.getD 0 undef) t24 (fun t25 w =>
  M.cond t25
  (M.fieldAddr 0 t3 (fun t28 w =>
  M.load1 t28 (fun t29 w =>
  M.indexSl 6 t29 (s1.getD 0 undef) (fun t31 w =>
  M.fieldAddr 0 t31 (fun t32 w =>
  M.load1 t32 (fun t33 w =>
  M.bin .eql t33 (Value.int IntKind.i64 21) (fun t34 w =>
  M.gd t34 true (fun k w => M.fieldAddr 0 t3 k w) (fun t36 w =>
  M.gd t34 true (fun k w => M.load1 t36 k w) (fun t37 w =>
  M.gd t34 true (fun k w => k (s1.getD 0 undef) w) (fun t38 w =>
  M.gd t34 true (fun k w => M.indexSl 6 t37 t38 k w) (fun t39 w =>
  M.gd t34 true (fun k w => M.fieldAddr 2 t39 k w) (fun t40 w =>
  M.gd t34 true (fun k w => M.load1 t40 k w) (fun t41 w =>
  M.gd t34 true (fun k w => k x2 w) (fun t42 w =>
  M.gd t34 true (fun k w => M.bin .eql t41 t42 k w) (fun t43 w =>
  M.pick t34 t43 (Value.bool false) (fun t44 w =>
  M.gd t44 true (fun k w => M.fieldAddr 0 t3 k w) (fun t46 w =>
  M.gd t44 true (fun k w => M.load1 t46 k w) (fun t47 w =>
  M.gd t44 true (fun k w => k (s1.getD 0 undef) w) (fun t48 w =>
  M.gd t44 true (fun k w => M.indexSl 6 t47 t48 k w) (fun t49 w =>
  M.gd t44 true (fun k w => M.fieldAddr 1 t49 k w) (fun t50 w =>
  M.gd t44 true (fun k w => M.load1 t50 k w) (fun t51 w =>
  M.gd t44 true (fun k w => k x1 w) (fun t52 w =>
  M.gd t44 true (fun k w => M.bin .neq t51 t52 k w) (fun t53 w =>
  M.pick t44 t53 (Value.bool false) (fun t54 w =>
  M.cond t54
  (M.loadA 2 t3 (fun t55 w =>
  M.store 2 t6 t55 (fun _ w =>
  M.loadA 2 t6 (fun r0 w => R (.tuple #[r0, (Value.int IntKind.i64 0), (Value.int IntKind.i64 2)]) w) w) w) w)
  (M.bin .add (s1.getD 0 undef) (Value.int IntKind.i64 1) (fun t27 w =>
  K1 [t27] w) w)) w) w) w) w) w) w) w) w) w) w) w) w) w) w) w) w) w) w) w) w) w) w) w) w)
  (M.loadA 2 t3 (fun t56 w =>
  pureW Tryz.prog (Instr.build 73 #[(0, (Value.int IntKind.i64 21)), (1, x1), (2, x2)]) (fun t59 w =>
  M.call Tryz.prog 80 #[t56, t59] (fun t60 w =>
  M.extract 0 t60 (fun t61 w =>
  M.extract 1 t60 (fun t62 w =>
  M.extract 2 t60 (fun t63 w =>
  M.store 2 t6 t61 (fun _ w =>
  M.loadA 2 t6 (fun r0 w => R (.tuple #[r0, t62, t63]) w) w) w) w) w) w) w) w) w)) w) w) w) w) w)) w) w) w) w)) w) w) w) w
theorem ok51 (x0 x1 x2 : Value) (R : Kt) (w : World) (h : sh51 x0 x1 x2 R w) : Ret Tryz.prog 51 #[x0, x1, x2] w R :=
  ret_mk <| calls_of_comp mixed (c := Tryz.f51.body.getD .skip) (args := [x0, x1, x2]) (rs := [(ResultVar.cell 6 29), (ResultVar.tmp 7), (ResultVar.tmp 8)]) (Ann.seq Ann.text (Ann.seq (Ann.seq Ann.text (Ann.cond (Ann.seq Ann.text Ann.leaf) Ann.leaf)) (Ann.seq (Ann.seq Ann.text (Ann.cond (Ann.seq Ann.text Ann.leaf) Ann.leaf)) (Ann.seq (Ann.seq Ann.text (Ann.block (Ann.loop [9] [7, 8, 21, 22, 23, 24, 25, 26, 27, 28, 29, 30, 31, 32, 33, 34, 35, 36, 37, 38, 39, 40, 41, 42, 43, 44, 45, 46, 47, 48, 49, 50, 51, 52, 53, 54, 55] (Ann.seq (Ann.seq Ann.text (Ann.cond Ann.leaf Ann.leaf)) (Ann.seq (Ann.block (Ann.seq Ann.text (Ann.cond (Ann.seq Ann.text Ann.leaf) Ann.leaf))) Ann.text))))) (Ann.seq Ann.text Ann.leaf)))))
    Tryz.func51 (by kernel_rfl) (by kernel_rfl)
    (Eq.mp (by kernel_rfl) h)
def sh52 (x0 x1 x2 : Value) (R : Kt) (w : World) : Prop :=
  M.new 29 (Value.cells x0) (fun t3 w =>
  M.new 29 #[.slice none 0 0, .int .i64 0] (fun t6 w =>
  M.bin .neq x1 (Value.int IntKind.i64 15) (fun t10 w =>
  M.gd t10 true (fun k w => k x1 w) (fun t12 w =>
  M.gd t10 true (fun k w => M.bin .neq t12 (Value.int IntKind.i64 16) k w) (fun t13 w =>
  M.pick t10 t13 (Value.bool false) (fun t14 w =>
  M.cond t14
  (M.loadA 2 t3 (fun t15 w =>
  M.store 2 t6 t15 (fun _ w =>
  M.loadA 2 t6 (fun r0 w => R (.tuple #[r0, (Value.int IntKind.i64 0), (Value.int IntKind.i64 3)]) w) w) w) w)
  (M.loadA 2 t3 (fun t16 w =>
  M.call Tryz.prog 38 #[t16, x2] (fun t18 w =>
  M.not t18 (fun t19 w =>
  M.cond t19
  (M.loadA 2 t3 (fun t20 w =>
  M.store 2 t6 t20 (fun _ w =>
  M.loadA 2 t6 (fun r0 w => R (.tuple #[r0, (Value.int IntKind.i64 0), (Value.int IntKind.i64 11)]) w) w) w) w)
  (M.draw (fun w =>
  M.loadA 2 t3 (fun t21 w =>
  M.loadA 2 t3 (fun t23 w =>
  M.call Tryz.prog 15 #[t23, x2] (fun t25 w =>
  ((M.loadA 2 t3 (fun v' _ => v' = t21) w) ∧ pureW Tryz.prog (Instr.build 73 #[(0, x1), (1, t25), (2, x2)]) (fun t27 w =>
  M.call Tryz.prog 80 #[t21, t27] (fun t28 w =>
  M.extract 0 t28 (fun t29 w =>
  M.extract 1 t28 (fun t30 w =>
  M.extract 2 t28 (fun t31 w =>
  M.store 2 t6 t29 (fun _ w =>
  M.loadA 2 t6 (fun r0 w => R (.tuple #[r0, t30, t31]) w) w) w) w) w) w) w) w)) w) w) w) w)) w) w) w)) w) w) w) w) w) w
theorem ok52 (x0 x1 x2 : Value) (R : Kt) (w : World) (h : sh52 x0 x1 x2 R w) : Ret Tryz.prog 52 #[x0, x1, x2] w R :=
  ret_mk <| calls_of_comp mixed (c := Tryz.f52.body.getD .skip) (args := [x0, x1, x2]) (rs := [(ResultVar.cell 6 29), (ResultVar.tmp 7), (ResultVar.tmp 8)]) (Ann.seq Ann.text (Ann.seq (Ann.seq Ann.text (Ann.cond (Ann.seq Ann.text Ann.leaf) Ann.leaf)) (Ann.seq (Ann.seq Ann.text (Ann.cond (Ann.seq Ann.text Ann.leaf) Ann.leaf)) (Ann.seq (Ann.draw (Sch.take 0 (Sch.take 1 (Sch.take 2 (Sch.take 3 (Sch.take 5 (Sch.one 4 (Sch.take 6 (Sch.one 7 (Sch.take 8 (Sch.take 9 (Sch.take 10 (Sch.one 11 (Sch.take 12 (Sch.take 13 Sch.done))))))))))))))) Ann.leaf))))
    Tryz.func52 (by kernel_rfl) (by kernel_rfl)
    (Eq.mp (by kernel_rfl) h)
def sh53 (x0 x1 x2 x3 : Value) (R : Kt) (w : World) : Prop :=
  M.new 29 (Value.cells x0) (fun t4 w =>
  M.new 29 #[.slice none 0 0, .int .i64 0] (fun t8 w =>
  M.bin .lss x1 (Value.int IntKind.i64 1) (fun t13 w =>
  M.gd t13 false (fun k w => k x1 w) (fun t15 w =>
  M.gd t13 false (fun k w => M.bin .gtr t15 (Value.int IntKind.i64 14) k w) (fun t16 w =>
  M.pick t13 (Value.bool true) t16 (fun t17 w =>
  M.cond t17
  (M.loadA 2 t4 (fun t18 w =>
  M.store 2 t8 t18 (fun _ w =>
  M.loadA 2 t8 (fun r0 w => R (.tuple #[r0, (Value.int IntKind.i64 0), (Value.int IntKind.i64 3)]) w) w) w) w)
  (M.loadA 2 t4 (fun t19 w =>
  M.call Tryz.prog 38 #[t19, x2] (fun t21 w =>
  M.not t21 (fun t22 w =>
  M.gd t22 false (fun k w => M.loadA 2 t4 k w) (fun t24 w =>
  M.gd t22 false (fun k w => k x3 w) (fun t25 w =>
  M.gd t22 false (fun k w => M.call Tryz.prog 38 #[t24, t25] k w) (fun t26 w =>
  M.gd t22 false (fun k w => M.not t26 k w) (fun t27 w =>
  M.pick t22 (Value.bool true) t27 (fun t28 w =>
  M.cond t28
  (M.loadA 2 t4 (fun t29 w =>
  M.store 2 t8 t29 (fun _ w =>
  M.loadA 2 t8 (fun r0 w => R (.tuple #[r0, (Value.int IntKind.i64 0), (Value.int IntKind.i64 11)]) w) w) w) w)
  (M.loadA 2 t4 (fun t30 w =>
  M.call Tryz.prog 15 #[t30, x2] (fun t32 w =>
  M.loadA 2 t4 (fun t34 w =>
  M.call Tryz.prog 15 #[t34, x3] (fun t36 w =>
  M.bin .neq t32 t36 (fun t37 w =>
  M.cond t37
  (M.loadA 2 t4 (fun t38 w =>
  M.store 2 t8 t38 (fun _ w =>
  M.loadA 2 t8 (fun r0 w => R (.tuple #[r0, (Value.int IntKind.i64 0), (Value.int IntKind.i64 2)]) w) w) w) w)
  (M.share (fun K1 w =>
  M.bin .geq x1 (Value.int IntKind.i64 12) (fun t40 w =>
  M.cond t40
  (K1 [(Value.int IntKind.i64 1)] w)
  (K1 [t32] w)) w) (fun s1 w => ∀ _ : List Value,
  M.loadA 2 t4 (fun t41 w =>
  pureW Tryz.prog (Instr.build 73 #[(0, x1), (1, (s1.getD 0 undef)), (2, x2), (3, x3)]) (fun t46 w =>
  M.call Tryz.prog 80 #[t41, t46] (fun t47 w =>
  M.extract 0 t47 (fun t48 w =>
  M.extract 1 t47 (fun t49 w =>
  M.extract 2 t47 (fun t50 w =>
  M.store 2 t8 t48 (fun _ w =>
  M.loadA 2 t8 (fun r0 w => R (.tuple #[r0, t49, t50]) w) w) w) w) w) w) w) w) w) w)) w) w) w) w) w)) w) w) w) w) w) w) w) w)) w) w) w) w) w) w
theorem ok53 (x0 x1 x2 x3 : Value) (R : Kt) (w : World) (h : sh53 x0 x1 x2 x3 R w) : Ret Tryz.prog 53 #[x0, x1, x2, x3] w R :=
  ret_mk <| calls_of_comp mixed (c := Tryz.f53.body.getD .skip) (args := [x0, x1, x2, x3]) (rs := [(ResultVar.cell 8 29), (ResultVar.tmp 9), (ResultVar.tmp 10)]) (Ann.seq Ann.text (Ann.seq (Ann.seq Ann.text (Ann.cond (Ann.seq Ann.text Ann.leaf) Ann.leaf)) (Ann.seq (Ann.seq Ann.text (Ann.cond (Ann.seq Ann.text Ann.leaf) Ann.leaf)) (Ann.seq Ann.text (Ann.seq (Ann.seq Ann.text (Ann.cond (Ann.seq Ann.text Ann.leaf) Ann.leaf)) (Ann.join [11] [39, 40] (Ann.seq Ann.text (Ann.cond Ann.text Ann.leaf)) (Ann.seq Ann.text Ann.leaf)))))))
    Tryz.func53 (by kernel_rfl) (by kernel_rfl)
    (Eq.mp (by kernel_rfl) h)
def sh54 (x0 x1 x2 x3 : Value) (R : Kt) (w : World) : Prop :=
  M.new 29 (Value.cells x0) (fun t4 w =>
  M.new 29 #[.slice none 0 0, .int .i64 0] (fun t8 w =>
  M.loadA 2 t4 (fun t11 w =>
  M.call Tryz.prog 38 #[t11, x1] (fun t13 w =>
  M.not t13 (fun t14 w =>
  M.gd t14 false (fun k w => M.loadA 2 t4 k w) (fun t16 w =>
  M.gd t14 false (fun k w => k x2 w) (fun t17 w =>
  M.gd t14 false (fun k w => M.call Tryz.prog 38 #[t16, t17] k w) (fun t18 w =>
  M.gd t14 false (fun k w => M.not t18 k w) (fun t19 w =>
  M.pick t14 (Value.bool true) t19 (fun t20 w =>
  M.gd t20 false (fun k w => M.loadA 2 t4 k w) (fun t22 w =>
  M.gd t20 false (fun k w => k x3 w) (fun t23 w =>
  M.gd t20 false (fun k w => M.call Tryz.prog 38 #[t22, t23] k w) (fun t24 w =>
  M.gd t20 false (fun k w => M.not t24 k w) (fun t25 w =>
  M.pick t20 (Value.bool true) t25 (fun t26 w =>
  M.cond t26
  (M.loadA 2 t4 (fun t27 w =>
  M.store 2 t8 t27 (fun _ w =>
  M.loadA 2 t8 (fun r0 w => R (.tuple #[r0, (Value.int IntKind.i64 0), (Value.int IntKind.i64 11)]) w) w) w) w)
  (M.draw (fun w =>
  M.loadA 2 t4 (fun t28 w =>
  M.call Tryz.prog 15 #[t28, x1] (fun t30 w =>
  M.bin .neq t30 (Value.int IntKind.i64 1) (fun t31 w =>
  M.gd t31 false (fun k w => M.loadA 2 t4 k w) (fun t33 w =>
  M.gd t31 false (fun k w => k x2 w) (fun t34 w =>
  M.gd t31 false (fun k w => M.loadA 2 t4 k w) (fun t36 w =>
  M.gd t31 false (fun k w => k x3 w) (fun t37 w =>
  M.gd t31 false (fun k w => M.call Tryz.prog 15 #[t33, t34] k w) (fun t35 w =>
  ((M.gd t31 false (fun k w => M.loadA 2 t4 k w) (fun v' _ => v' = t36) w) ∧ M.gd t31 false (fun k w => M.call Tryz.prog 15 #[t36, t37] k w) (fun t38 w =>
  M.gd t31 false (fun k w => M.bin .neq t35 t38 k w) (fun t39 w =>
  M.pick t31 (Value.bool true) t39 (fun t40 w =>
  M.cond t40
  (M.loadA 2 t4 (fun t41 w =>
  M.store 2 t8 t41 (fun _ w =>
  M.loadA 2 t8 (fun r0 w => R (.tuple #[r0, (Value.int IntKind.i64 0), (Value.int IntKind.i64 2)]) w) w) w) w)
  (M.draw (fun w =>
  M.loadA 2 t4 (fun t42 w =>
  M.loadA 2 t4 (fun t43 w =>
  M.call Tryz.prog 15 #[t43, x2] (fun t45 w =>
  ((M.loadA 2 t4 (fun v' _ => v' = t42) w) ∧ pureW Tryz.prog (Instr.build 73 #[(0, (Value.int IntKind.i64 22)), (1, t45), (2, x1), (3, x2), (4, x3)]) (fun t49 w =>
  M.call Tryz.prog 80 #[t42, t49] (fun t50 w =>
  M.extract 0 t50 (fun t51 w =>
  M.extract 1 t50 (fun t52 w =>
  M.extract 2 t50 (fun t53 w =>
  M.store 2 t8 t51 (fun _ w =>
  M.loadA 2 t8 (fun r0 w => R (.tuple #[r0, t52, t53]) w) w) w) w) w) w) w) w)) w) w) w) w)) w) w) w)) w) w) w) w) w) w) w) w) w)) w) w) w) w) w) w) w) w) w) w) w) w) w) w) w
theorem ok54 (x0 x1 x2 x3 : Value) (R : Kt) (w : World) (h : sh54 x0 x1 x2 x3 R w) : Ret Tryz.prog 54 #[x0, x1, x2, x3] w R :=
  ret_mk <| calls_of_comp mixed (c := Tryz.f54.body.getD .skip) (args := [x0, x1, x2, x3]) (rs := [(ResultVar.cell 8 29), (ResultVar.tmp 9), (ResultVar.tmp 10)]) (Ann.seq Ann.text (Ann.seq (Ann.seq Ann.text (Ann.cond (Ann.seq Ann.text Ann.leaf) Ann.leaf)) (Ann.seq (Ann.seq (Ann.draw (Sch.take 0 (Sch.take 1 (Sch.one 2 (Sch.take 3 (Sch.take 4 (Sch.take 5 (Sch.take 6 (Sch.take 8 (Sch.take 9 (Sch.one 7 (Sch.one 10 (Sch.take 11 (Sch.take 12 Sch.done)))))))))))))) (Ann.cond (Ann.seq Ann.text Ann.leaf) Ann.leaf)) (Ann.seq (Ann.draw (Sch.take 0 (Sch.take 1 (Sch.take 2 (Sch.take 4 (Sch.take 5 (Sch.take 6 (Sch.one 3 (Sch.take 7 (Sch.one 8 (Sch.take 9 (Sch.take 10 (Sch.take 11 (Sch.one 12 (Sch.take 13 (Sch.take 14 Sch.done)))))))))))))))) Ann.leaf))))
    Tryz.func54 (by kernel_rfl) (by kernel_rfl)
    (Eq.mp (by kernel_rfl) h)
def sh55 (x0 x1 x2 x3 : Value) (R : Kt) (w : World) : Prop :=
  M.new 29 (Value.cells x0) (fun t4 w =>
  M.new 29 #[.slice none 0 0, .int .i64 0] (fun t8 w =>
  M.loadA 2 t4 (fun t11 w =>
  M.call Tryz.prog 38 #[t11, x1] (fun t13 w =>
  M.not t13 (fun t14 w =>
  M.cond t14
  (M.loadA 2 t4 (fun t15 w =>
  M.store 2 t8 t15 (fun _ w =>
  M.loadA 2 t8 (fun r0 w => R (.tuple #[r0, (Value.int IntKind.i64 0), (Value.int IntKind.i64 11)]) w) w) w) w)
  (M.bin .lss x3 (Value.int IntKind.i64 1) (fun t17 w =>
  M.gd t17 false (fun k w => k x3 w) (fun t19 w =>
  M.gd t17 false (fun k w => M.loadA 2 t4 k w) (fun t20 w =>
  M.gd t17 false (fun k w => k x1 w) (fun t21 w =>
  M.gd t17 false (fun k w => M.call Tryz.prog 15 #[t20, t21] k w) (fun t22 w =>
  M.gd t17 false (fun k w => M.bin .gtr t19 t22 k w) (fun t23 w =>
  M.pick t17 (Value.bool true) t23 (fun t24 w =>
  M.gd t24 false (fun k w => k x2 w) (fun t26 w =>
  M.gd t24 false (fun k w => M.bin .lss t26 (Value.int IntKind.i64 0) k w) (fun t27 w =>
  M.pick t24 (Value.bool true) t27 (fun t28 w =>
  M.gd t28 false (fun k w => k x2 w) (fun t30 w =>
  M.gd t28 false (fun k w => M.loadA 2 t4 k w) (fun t31 w =>
  M.gd t28 false (fun k w => k x1 w) (fun t32 w =>
  M.gd t28 false (fun k w => M.call Tryz.prog 15 #[t31, t32] k w) (fun t33 w =>
  M.gd t28 false (fun k w => k x3 w) (fun t34 w =>
  M.gd t28 false (fun k w => M.bin .sub t33 t34 k w) (fun t35 w =>
  M.gd t28 false (fun k w => M.bin .gtr t30 t35 k w) (fun t36 w =>
  M.pick t28 (Value.bool true) t36 (fun t37 w =>
  M.cond t37
  (M.loadA 2 t4 (fun t38 w =>
  M.store 2 t8 t38 (fun _ w =>
  M.loadA 2 t8 (fun r0 w => R (.tuple #[r0, (Value.int IntKind.i64 0), (Value.int IntKind.i64 2)]) w) w) w) w)
  (M.loadA 2 t4 (fun t39 w =>
  pureW Tryz.prog (Instr.build 73 #[(0, (Value.int IntKind.i64 23)), (1, x3), (2, x1), (3, x2)]) (fun t43 w =>
  M.call Tryz.prog 80 #[t39, t43] (fun t44 w =>
  M.extract 0 t44 (fun t45 w =>
  M.extract 1 t44 (fun t46 w =>
  M.extract 2 t44 (fun t47 w =>
  M.store 2 t8 t45 (fun _ w =>
  M.loadA 2 t8 (fun r0 w => R (.tuple #[r0, t46, t47]) w) w) w) w) w) w) w) w) w)) w) w) w) w) w) w) w) w) w) w) w) w) w) w) w) w) w) w)) w) w) w) w) w
theorem ok55 (x0 x1 x2 x3 : Value) (R : Kt) (w : World) (h : sh55 x0 x1 x2 x3 R w) : Ret Tryz.prog 55 #[x0, x1, x2, x3] w R :=
  ret_mk <| calls_of_comp mixed (c := Tryz.f55.body.getD .skip) (args := [x0, x1, x2, x3]) (rs := [(ResultVar.cell 8 29), (ResultVar.tmp 9), (ResultVar.tmp 10)]) (Ann.seq Ann.text (Ann.seq (Ann.seq Ann.text (Ann.cond (Ann.seq Ann.text Ann.leaf) Ann.leaf)) (Ann.seq (Ann.seq Ann.text (Ann.cond (Ann.seq Ann.text Ann.leaf) Ann.leaf)) (Ann.seq Ann.text Ann.leaf))))
    Tryz.func55 (by kernel_rfl) (by kernel_rfl)
    (Eq.mp (by kernel_rfl) h)
def sh56 (x0 x1 x2 : Value) (R : Kt) (w : World) : Prop :=
  M.new 29 (Value.cells x0) (fun t3 w =>
  M.new 29 #[.slice none 0 0, .int .i64 0] (fun t6 w =>
  M.loadA 2 t3 (fun t9 w =>
  M.call Tryz.prog 38 #[t9, x1] (fun t11 w =>
  M.not t11 (fun t12 w =>
  M.gd t12 false (fun k w => M.loadA 2 t3 k w) (fun t14 w =>
  M.gd t12 false (fun k w => k x2 w) (fun t15 w =>
  M.gd t12 false (fun k w => M.call Tryz.prog 38 #[t14, t15] k w) (fun t16 w =>
  M.gd t12 false (fun k w => M.not t16 k w) (fun t17 w =>
  M.pick t12 (Value.bool true) t17 (fun t18 w =>
  M.cond t18
  (M.loadA 2 t3 (fun t19 w =>
  M.store 2 t6 t19 (fun _ w =>
  M.loadA 2 t6 (fun r0 w => R (.tuple #[r0, (Value.int IntKind.i64 0), (Value.int IntKind.i64 11)]) w) w) w) w)
  (M.draw (fun w =>
  M.loadA 2 t3 (fun t20 w =>
  M.loadA 2 t3 (fun t23 w =>
  M.call Tryz.prog 15 #[t20, x1] (fun t22 w =>
  ((M.loadA 2 t3 (fun v' _ => v' = t23) w) ∧ M.call Tryz.prog 15 #[t23, x2] (fun t25 w =>
  M.bin .add t22 t25 (fun t26 w =>
  M.bin .gtr t26 (Value.int IntKind.i64 64) (fun t27 w =>
  M.cond t27
  (M.loadA 2 t3 (fun t28 w =>
  M.store 2 t6 t28 (fun _ w =>
  M.loadA 2 t6 (fun r0 w => R (.tuple #[r0, (Value.int IntKind.i64 0), (Value.int IntKind.i64 2)]) w) w) w) w)
  (M.draw (fun w =>
  M.loadA 2 t3 (fun t29 w =>
  M.loadA 2 t3 (fun t30 w =>
  M.loadA 2 t3 (fun t33 w =>
  M.call Tryz.prog 15 #[t30, x1] (fun t32 w =>
  ((M.loadA 2 t3 (fun v' _ => v' = t33) w) ∧ ((M.loadA 2 t3 (fun v' _ => v' = t29) w) ∧ M.call Tryz.prog 15 #[t33, x2] (fun t35 w =>
  ((M.loadA 2 t3 (fun v' _ => v' = t29) w) ∧ M.bin .add t32 t35 (fun t36 w =>
  pureW Tryz.prog (Instr.build 73 #[(0, (Value.int IntKind.i64 24)), (1, t36), (2, x1), (3, x2)]) (fun t39 w =>
  M.call Tryz.prog 80 #[t29, t39] (fun t40 w =>
  M.extract 0 t40 (fun t41 w =>
  M.extract 1 t40 (fun t42 w =>
  M.extract 2 t40 (fun t43 w =>
  M.store 2 t6 t41 (fun _ w =>
  M.loadA 2 t6 (fun r0 w => R (.tuple #[r0, t42, t43]) w) w) w) w) w) w) w) w) w)) w))) w) w) w) w) w)) w) w) w)) w) w) w) w)) w) w) w) w) w) w) w) w) w) w
theorem ok56 (x0 x1 x2 : Value) (R : Kt) (w : World) (h : sh56 x0 x1 x2 R w) : Ret Tryz.prog 56 #[x0, x1, x2] w R :=
  ret_mk <| calls_of_comp mixed (c := Tryz.f56.body.getD .skip) (args := [x0, x1, x2]) (rs := [(ResultVar.cell 6 29), (ResultVar.tmp 7), (ResultVar.tmp 8)]) (Ann.seq Ann.text (Ann.seq (Ann.seq Ann.text (Ann.cond (Ann.seq Ann.text Ann.leaf) Ann.leaf)) (Ann.seq (Ann.seq (Ann.draw (Sch.take 0 (Sch.take 1 (Sch.take 3 (Sch.take 4 (Sch.one 2 (Sch.one 5 (Sch.take 6 (Sch.take 7 Sch.done))))))))) (Ann.cond (Ann.seq Ann.text Ann.leaf) Ann.leaf)) (Ann.seq (Ann.draw (Sch.take 0 (Sch.take 1 (Sch.take 2 (Sch.take 4 (Sch.take 5 (Sch.take 8 (Sch.take 9 (Sch.one 3 (Sch.one 6 (Sch.take 7 (Sch.take 10 (Sch.one 11 (Sch.take 12 (Sch.take 13 (Sch.take 14 (Sch.one 15 (Sch.take 16 (Sch.take 17 Sch.done))))))))))))))))))) Ann.leaf))))
    Tryz.func56 (by kernel_rfl) (by kernel_rfl)
    (Eq.mp (by kernel_rfl) h)
def sh57 (x0 x1 x2 x3 : Value) (R : Kt) (w : World) : Prop :=
  M.new 29 (Value.cells x0) (fun t4 w =>
  M.new 29 #[.slice none 0 0, .int .i64 0] (fun t8 w =>
  M.loadA 2 t4 (fun t11 w =>
  M.call Tryz.prog 38 #[t11, x1] (fun t13 w =>
  M.not t13 (fun t14 w =>
  M.cond t14
  (M.loadA 2 t4 (fun t15 w =>
  M.store 2 t8 t15 (fun _ w =>
  M.loadA 2 t8 (fun r0 w => R (.tuple #[r0, (Value.int IntKind.i64 0), (Value.int IntKind.i64 11)]) w) w) w) w)
  (M.loadA 2 t4 (fun t17 w =>
  M.call Tryz.prog 15 #[t17, x1] (fun t19 w =>
  M.bin .lss x2 t19 (fun t20 w =>
  M.gd t20 false (fun k w => k x2 w) (fun t22 w =>
  M.gd t20 false (fun k w => M.bin .gtr t22 (Value.int IntKind.i64 64) k w) (fun t23 w =>
  M.pick t20 (Value.bool true) t23 (fun t24 w =>
  M.cond t24
  (M.loadA 2 t4 (fun t25 w =>
  M.store 2 t8 t25 (fun _ w =>
  M.loadA 2 t8 (fun r0 w => R (.tuple #[r0, (Value.int IntKind.i64 0), (Value.int IntKind.i64 2)]) w) w) w) w)
  (M.loadA 2 t4 (fun t27 w =>
  M.call Tryz.prog 15 #[t27, x1] (fun t29 w =>
  M.bin .eql x2 t29 (fun t30 w =>
  M.cond t30
  (M.loadA 2 t4 (fun t31 w =>
  M.store 2 t8 t31 (fun _ w =>
  M.loadA 2 t8 (fun r0 w => R (.tuple #[r0, x1, (Value.int IntKind.i64 0)]) w) w) w) w)
  (M.cond x3
  (M.loadA 2 t4 (fun t34 w =>
  pureW Tryz.prog (Instr.build 73 #[(0, (Value.int IntKind.i64 26)), (1, x2), (2, x1)]) (fun t37 w =>
  M.call Tryz.prog 80 #[t34, t37] (fun t38 w =>
  M.extract 0 t38 (fun t39 w =>
  M.extract 1 t38 (fun t40 w =>
  M.extract 2 t38 (fun t41 w =>
  M.store 2 t8 t39 (fun _ w =>
  M.loadA 2 t8 (fun r0 w => R (.tuple #[r0, t40, t41]) w) w) w) w) w) w) w) w) w)
  (M.loadA 2 t4 (fun t42 w =>
  pureW Tryz.prog (Instr.build 73 #[(0, (Value.int IntKind.i64 25)), (1, x2), (2, x1)]) (fun t45 w =>
  M.call Tryz.prog 80 #[t42, t45] (fun t46 w =>
  M.extract 0 t46 (fun t47 w =>
  M.extract 1 t46 (fun t48 w =>
  M.extract 2 t46 (fun t49 w =>
  M.store 2 t8 t47 (fun _ w =>
  M.loadA 2 t8 (fun r0 w => R (.tuple #[r0, t48, t49]) w) w) w) w) w) w) w) w) w))) w) w) w)) w) w) w) w) w) w)) w) w) w) w) w
theorem ok57 (x0 x1 x2 x3 : Value) (R : Kt) (w : World) (h : sh57 x0 x1 x2 x3 R w) : Ret Tryz.prog 57 #[x0, x1, x2, x3] w R :=
  ret_mk <| calls_of_comp mixed (c := Tryz.f57.body.getD .skip) (args := [x0, x1, x2, x3]) (rs := [(ResultVar.cell 8 29), (ResultVar.tmp 9), (ResultVar.tmp 10)]) (Ann.seq Ann.text (Ann.seq (Ann.seq Ann.text (Ann.cond (Ann.seq Ann.text Ann.leaf) Ann.leaf)) (Ann.seq (Ann.seq Ann.text (Ann.cond (Ann.seq Ann.text Ann.leaf) Ann.leaf)) (Ann.seq (Ann.seq Ann.text (Ann.cond (Ann.seq Ann.text Ann.leaf) Ann.leaf)) (Ann.seq (Ann.seq Ann.text (Ann.cond (Ann.seq Ann.text Ann.leaf) Ann.leaf)) (Ann.seq Ann.text Ann.leaf))))))
    Tryz.func57 (by kernel_rfl) (by kernel_rfl)
    (Eq.mp (by kernel_rfl) h)
theorem eqNd (x y : Nd) (w : World) : (binOp .eql 73 (encN x) (encN y)).run Tryz.prog w = .ok (.bool (decide (x = y))) w := by
  have u3 := Tryz.underlying3
  have a3 := Tryz.isAgg3
  have z3 := Tryz.sizeOf3
  have u9 := Tryz.underlying53
  have a9 := Tryz.isAgg53
  have z9 := Tryz.sizeOf53
  have hS : Tryz.prog.underlying 73 = some (.struct (Tryz.prog.fieldsOf 73)) := by kernel_rfl
  have hp : Tryz.prog.stoodInHeld 73 = false := by kernel_rfl
  rw [run_eql_struct, show (10000 : Nat) = 9999 + 1 from rfl, run_equalIn_agg w 9999 73 _ _ hS hp]
  simp only [Program.fieldsOf, Tryz.underlying73, Nd.cells]
  obtain ⟨x1, x2, x3, x4, x5, x6⟩ := x
  obtain ⟨y1, y2, y3, y4, y5, y6⟩ := y
  go_simp
  by_cases h6 : x6 = y6
  · subst h6
    by_cases h1 : x1 = y1 <;> by_cases h2 : x2 = y2 <;> by_cases h3 : x3 = y3 <;> by_cases h4 : x4 = y4 <;> by_cases h5 : x5 = y5 <;> simp [h1, h2, h3, h4, h5]
  · have h6' : ¬ (x6.toNat : Int) = (y6.toNat : Int) := fun e => h6 (vw_inj.1 e)
    by_cases h1 : x1 = y1 <;> by_cases h2 : x2 = y2 <;> by_cases h3 : x3 = y3 <;> by_cases h4 : x4 = y4 <;> by_cases h5 : x5 = y5 <;> simp [h1, h2, h3, h4, h5, h6, h6']
theorem M.eqNd_i {k : Kt} {w : World} {o1 o2 : Operand} {x y : Nd} (h : k (.bool (decide (x = y))) w) :
    M.val Tryz.prog (do eqGuard .eql 73 o1 o2 (encN x) (encN y); binOp .eql 73 (encN x) (encN y)) k w := by
  refine M.val_i (v := .bool (decide (x = y))) (w' := w) ?_ h
  have hm : Tryz.prog.eqGuardType Tryz.prog.depth 73 = false := by kernel_rfl
  rw [Sem.run_bind, run_eqGuard_agg w .eql _ o1 o2 _ _ hm]
  exact eqNd x y w
def RD (w : World) (D : Nat → Prop) (v : Value) (N : List Nd) (most : Int) : Prop := ∃ A c, v = .agg ⟨[.slice A N.length c, vi most]⟩ ∧ Row w D A (NL N)
theorem RD.keep {w w' : World} {D S : Nat → Prop} {v : Value} {N : List Nd} {most : Int} (h : RD w D v N most) (k : Keep w w' S) (hs : ∀ b, b < w.heap.size → D b → ¬ S b) : RD w' D v N most := by
  obtain ⟨A, c, h1, h2⟩ := h
  exact ⟨A, c, h1, h2.keep k hs⟩
theorem RD.mono {w : World} {D D' : Nat → Prop} {v : Value} {N : List Nd} {most : Int} (h : RD w D v N most) (hd : ∀ b, b < w.heap.size → D b → D' b) : RD w D' v N most := by
  obtain ⟨A, c, h1, h2⟩ := h
  exact ⟨A, c, h1, h2.mono hd⟩
def RAsk (w : World) (D : Nat → Prop) (most : Int) (res : List Nd × Int × Int) (r : Value) (w' : World) : Prop :=
  ∃ d, r = .tuple #[d, vi res.2.1, vi res.2.2] ∧ RD w' (fun b => D b ∨ w.heap.size ≤ b) d res.1 most ∧ Keep w w' No
theorem RAsk.from {w w1 : World} {D : Nat → Prop} {most : Int} {res : List Nd × Int × Int} {r : Value} {w' : World} (k : Keep w w1 No) (h : RAsk w1 D most res r w') : RAsk w D most res r w' := by
  obtain ⟨d, h1, h2, h3⟩ := h
  have := k.size
  exact ⟨d, h1, h2.mono (fun b _ h => h.imp id (fun h => by omega)), k.trans h3 (fun _ _ h => h)⟩
section
variable {w : World} {D : Nat → Prop} {v : Value} {N : List Nd} {most : Int}
theorem rback {R : Kt} {p3 p6 : Nat} {l : List Value} {x y : Value} (b3 : Blk w p3 l) (b6 : Blk w p6 [x, y]) (hl : l.length = 2) (ho : ∀ v ∈ l, v.oneCell' = true) (hR : ∀ w', Keep w w' (· = p6) → R (.agg ⟨l⟩) w') :
    M.loadA 2 (ptr p3) (fun t w => M.store 2 (ptr p6) t (fun _ w => M.loadA 2 (ptr p6) (fun r0 w => R r0 w) w) w) w := by
  refine M.loadAll_i b3 hl ?_
  refine M.storeAll_i b6 hl rfl ho (fun w1 b1 k1 s1 => ?_)
  exact M.loadAll_i b1 hl (hR w1 k1)
theorem rout {R : Kt} {p6 : Nat} {l : List Value} {x y : Value} (b6 : Blk w p6 [x, y]) (hl : l.length = 2) (ho : ∀ v ∈ l, v.oneCell' = true) (hR : ∀ w', Keep w w' (· = p6) → R (.agg ⟨l⟩) w') :
    M.store 2 (ptr p6) (.agg ⟨l⟩) (fun _ w => M.loadA 2 (ptr p6) (fun r0 w => R r0 w) w) w := by
  refine M.storeAll_i b6 hl rfl ho (fun w1 b1 k1 s1 => ?_)
  exact M.loadAll_i b1 hl (hR w1 k1)
theorem two_one {A : Option Addr} {n c : Nat} {m : Int} : ∀ v ∈ [Value.slice A n c, vi m], v.oneCell' = true := by
  intro v hv
  simp only [List.mem_cons, List.not_mem_nil, or_false] at hv
  rcases hv with rfl | rfl <;> rfl
theorem ris_ret (h : RD w D v N most) (i : Int) : Ret Tryz.prog 38 #[v, vi i] w (fun r w' => r = .bool (isN N i) ∧ Keep w w' No) := by
  obtain ⟨A, c, rfl, hr⟩ := h
  refine ok38 _ _ _ _ ?_
  unfold sh38
  refine M.new_i (l := [.slice A N.length c, vi most]) (fun w1 b1 k1 s1 => ?_)
  by_cases h0 : 0 ≤ i
  · (repeat (first|refine ja ?_|refine jc ?_|refine jf ?_|refine jE ?_|refine jN (by assumption) rfl ?_))
    refine M.lss_i ?_
    (repeat (refine jk ?_))
    exact ⟨by simp [isN, h0], k1⟩
  · (repeat (first|refine jh ?_|refine jl ?_|refine jF ?_))
    exact ⟨by simp [isN, h0], k1⟩
theorem rwidth_ret (h : RD w D v N most) (i : Int) : Ret Tryz.prog 15 #[v, vi i] w (fun r w' => r = vi (wdN N i) ∧ Keep w w' No) := by
  obtain ⟨A, c, rfl, hr⟩ := id h
  refine ok15 _ _ _ _ ?_
  unfold sh15
  refine M.new_i (l := [.slice A N.length c, vi most]) (fun w1 b1 k1 s1 => ?_)
  refine M.loadAll_i b1 rfl ?_
  refine M.call_i (ris_ret (h.keep k1 (fun _ _ _ h => h)) i) ?_; rintro _ w2 ⟨rfl, k2⟩
  have b2 := b1.keep k2 (fun h => h)
  have k12 := k1.trans k2 (fun _ _ h => h)
  refine M.not_i ?_
  cases hi : isN N i with
  | false =>
    (repeat (refine jo ?_))
    exact ⟨by rw [wdN_none hi], k12⟩
  | true =>
    obtain ⟨j, n, rfl, hj⟩ := isN_get hi
    (repeat (first|refine jc ?_|refine jp ?_|refine jN (by assumption) rfl ?_))
    refine M.idxN_i (hr.keep k12 (fun _ _ _ h => h)) rfl (by omega) (n := n) (by simpa using hj) (fun bb oo hc => ?_)
    have h1 := hc 1 (vi n.wd) rfl
    (repeat (first|refine jc ?_|refine jM (by assumption) ?_))
    exact ⟨by rw [wdN_at hj], k12⟩
theorem idxOf_at {i : Nat} {n : Nd} (h : N[i]? = some n) (hno : ∀ (j : Nat) m, j < i → N[j]? = some m → m ≠ n) : N.idxOf n = i := by
  obtain ⟨hl, he⟩ := List.getElem?_eq_some_iff.1 h
  unfold List.idxOf
  rw [List.findIdx_eq hl]
  refine ⟨by rw [he]; simp, fun j hj => ?_⟩
  have := hno j _ hj (List.getElem?_eq_getElem (by omega))
  simpa using this
set_option maxHeartbeats 1000000 in
theorem rmade_ret (h : RD w D v N most) (hN : N.length ≤ 1000000) (n : Nd) :
    Ret Tryz.prog 80 #[v, encN n] w (RAsk w D most (madeN most N n)) := by
  obtain ⟨A, c, rfl, hr⟩ := id h
  refine ok80 _ _ _ _ ?_
  unfold sh80
  refine M.new_i (l := [.slice A N.length c, vi most]) (fun w1 b1 k1 s1 => ?_)
  refine M.new_i (l := n.cells) (fun w2 b2 k2 s2 => ?_)
  refine M.new_i (l := [.slice none 0 0, vi 0]) (fun w3 b3 k3 s3 => ?_)
  have b1 := (b1.keep k2 (fun h => h)).keep k3 (fun h => h)
  have b2 := b2.keep k3 (fun h => h)
  have k13 := (k1.trans k2 (fun _ _ h => h)).trans k3 (fun _ _ h => h)
  have hr3 := hr.keep k13 (fun _ _ _ h => h)
  refine M.loop_i (σ := Nat) (fun i vals w' => vals = [vi i] ∧ i ≤ N.length ∧ (∀ (j : Nat) m, j < i → N[j]? = some m → m ≠ n) ∧ Keep w3 w' No) (fun i => N.length - i) 0 ⟨rfl, by omega, by simp, Keep.refl _ _⟩ ?_
  rintro i vals w4 K ⟨rfl, hi, hno, k4⟩ hK _
  simp only [List.getD_cons_zero, List.getD_cons_succ]
  have c1 := b1.keep k4 (fun h => h)
  have c2 := b2.keep k4 (fun h => h)
  have c3 := b3.keep k4 (fun h => h)
  have hr4 := hr3.keep k4 (fun _ _ _ h => h)
  have k04 := k13.trans k4 (fun _ _ h => h)
  by_cases hlt : i < N.length
  · obtain ⟨m, hm⟩ : ∃ m, N[i]? = some m := ⟨_, List.getElem?_eq_getElem hlt⟩
    have kd := Keep.drew w4 No
    have d1 := c1.keep kd (fun h => h)
    have d2 := c2.keep kd (fun h => h)
    have d3 := c3.keep kd (fun h => h)
    (repeat (first|refine ja ?_|refine jc ?_|refine jd ?_|refine jo ?_|refine jy ?_|refine jN (by assumption) rfl ?_))
    refine M.idxN_i (hr4.keep kd (fun _ _ _ h => h)) rfl (by omega) (n := m) (by simpa using hm) (fun bb oo hc => ?_)
    refine M.loadN_i hc ?_
    refine M.loadAll_i d2 rfl ?_
    refine M.eqNd_i ?_
    refine ⟨M.loadB_i d1 rfl rfl, ?_⟩
    refine M.cond_i (fun hmn => ?_) (fun hmn => ?_)
    · subst hmn
      have hidx := idxOf_at hm hno
      have hmem := List.mem_of_getElem? hm
      have q1 := k1.size; have q2 := k2.size
      refine rback d1 d3 rfl two_one (fun w5 k5 => ?_)
      have k05 : Keep w w5 No := (k04.trans kd (fun _ _ h => h)).trans k5 (fun b hb h => by omega)
      have em : madeN most N m = (N, (i : Int), 0) := by
        unfold madeN
        rw [if_pos hmem, hidx]
      rw [em]
      exact ⟨_, rfl, (h.keep k05 (fun _ _ _ h => h)).mono (fun b _ h => Or.inl h), k05⟩
    · have k4d := k4.trans kd (fun _ _ h => h)
      (repeat (refine jK ?_))
      refine hK (i + 1) _ _ (by omega) ⟨by simp, by omega, fun j x hj hx => ?_, k4d⟩
      by_cases hji : j = i
      · subst hji; rw [hm] at hx; cases hx; exact hmn
      · exact hno j x (by omega) hx
  · have hi : i = N.length := by omega
    subst hi
    have hmem : n ∉ N := fun hm => by
      obtain ⟨j, hj⟩ := List.mem_iff_getElem?.1 hm
      exact hno j n (List.getElem?_eq_some_iff.1 hj).1 hj rfl
    have q1 := k1.size; have q2 := k2.size; have q3 := k3.size; have q4 := k4.size
    (repeat (first|refine ja ?_|refine jc ?_|refine jp ?_|refine jz ?_|refine jN (by assumption) rfl ?_))
    refine M.geq_i ?_
    by_cases hmost : most ≤ (N.length : Int)
    · rw [decide_eq_true hmost]
      have em : madeN most N n = (N, 0, 8) := by
        unfold madeN
        rw [if_neg hmem, if_pos hmost]
      rw [em]
      (repeat (refine jo ?_))
      refine rback c1 c3 rfl two_one (fun w5 k5 => ?_)
      have k05 : Keep w w5 No := k04.trans k5 (fun b hb h => by omega)
      exact ⟨_, rfl, (h.keep k05 (fun _ _ _ h => h)).mono (fun b _ h => Or.inl h), k05⟩
    · rw [decide_eq_false hmost]
      have em : madeN most N n = (N ++ [n], (N.length : Int), 0) := by
        unfold madeN
        rw [if_neg hmem, if_neg hmost]
      rw [em]
      (repeat (first|refine jc ?_|refine jp ?_|refine jN (by assumption) rfl ?_))
      refine M.append_i (GC.nil w4 (w4.heap.size ≤ ·) 6) hr4 (NL_len N) (NL_one N) rfl (by omega) (by omega) (fun v5 w5 g5 k5 => ?_)
      have k5 : Keep w4 w5 No := k5.mono (fun b hb h => by omega)
      have d1 := c1.keep k5 (fun h => h)
      have d2 := c2.keep k5 (fun h => h)
      have d3 := c3.keep k5 (fun h => h)
      have g5 := g5.mono (L' := (w4.heap.size ≤ ·)) (fun b _ h => by omega)
      have q5 := k5.size
      refine M.loadAll_i d2 rfl ?_
      refine M.buildSlice_i n.cells (by kernel_rfl) (fun w6 b6 k6 s6 => ?_)
      have g6 := g5.keep k6 (fun _ _ _ h => h)
      have d1 := d1.keep k6 (fun h => h)
      have d3 := d3.keep k6 (fun h => h)
      refine M.append_i g6 (Row.of_blk' (D := fun _ => True) b6 trivial) (m := 1) rfl (cells_one n) rfl (by omega) (by omega) (fun v7 w7 g7 k7 => ?_)
      have g7 := g7.mono (L' := (w4.heap.size ≤ ·)) (fun b _ h => by omega)
      have d1 := d1.keep k7 (fun h => by omega)
      have d3 := d3.keep k7 (fun h => by omega)
      obtain ⟨A7, c7, rfl, hr7, _⟩ := GC.row2 g7 (by omega)
      (repeat (refine jc ?_))
      refine M.store_i d1 (by simp) rfl (fun w8 b8 k8 s8 => ?_)
      have b8 : Blk w8 w.heap.size [.slice A7 (0 + N.length + 1) c7, vi most] := b8
      have d3 := d3.keep k8 (fun h => by omega)
      have kd := Keep.drew w8 No
      have e1 := b8.keep kd (fun h => h)
      have e3 := d3.keep kd (fun h => h)
      refine M.draw_i ?_
      refine M.loadAll_i e1 rfl ?_
      (repeat (first|refine ja ?_|refine jc ?_|refine jL ?_|refine jN (by assumption) rfl ?_))
      refine M.storeAll_i e3 rfl rfl two_one (fun w9 b9 k9 s9 => ?_)
      have e1 := e1.keep k9 (fun h => by omega)
      refine ⟨M.loadB_i e1 rfl rfl, ?_⟩
      have q7 := k7.size
      have q6 := k6.size
      have k08 : Keep w w8 No := (((k04.trans k5 (fun _ _ h => h)).trans k6 (fun _ _ h => h)).trans k7 (fun b hb h => by omega)).trans k8 (fun b hb h => by omega)
      have k09 : Keep w w9 No := (k08.trans kd (fun _ _ h => h)).trans k9 (fun b hb h => by omega)
      have hr9 := (((hr7.keep k8 (fun b hb h1 h2 => by omega)).keep kd (fun _ _ _ h => h)).keep k9 (fun b hb h1 h2 => by omega)).mono (D' := fun b => D b ∨ w.heap.size ≤ b) (fun b hb h => .inr (by omega))
      refine M.loadAll_i b9 rfl ⟨_, ?_, ⟨A7, c7, rfl, ?_⟩, k09⟩
      · rw [show (0 + N.length + 1) = (N ++ [n]).length by simp, show (((N ++ [n]).length : Nat) : Int) - 1 = (N.length : Int) by rw [List.length_append, List.length_singleton]; omega]
      · rw [NL_snoc]
        simpa using hr9
end
end Go.Proofs.YtnbcglnefoinlaaGreat
namespace Go.Proofs.YtnbcglnefoinlaaGreat
open Go.Mw Go.Maps Go.MapKept
set_option linter.unusedVariables false
set_option linter.unusedSimpArgs false
set_option maxRecDepth 100000
attribute [local irreducible] M.val M.unit M.next M.pick M.new M.nilCheck M.load1 M.loadA M.store M.fieldAddr M.indexSl M.indexArr M.slice M.makeSlice M.buildSlice M.len M.lenS M.cap M.append M.extract M.conv M.not M.neg M.bin M.shift M.eqB M.eqNil M.scat M.call M.callv M.gd M.share M.cond M.loop M.draw pureW readW Ret
section
variable {w : World} {D : Nat → Prop} {v : Value} {N : List Nd} {most : Int}
theorem rnew_ret (most : Int) (w : World) : Ret Tryz.prog 22 #[vi most] w (fun r w' => RD w' D r [] (if most < 0 ∨ 65536 < most then 0 else most) ∧ Keep w w' No) := by
  refine ok22 _ _ _ ?_
  unfold sh22
  refine M.new_i (l := [.slice none 0 0, vi 0]) (fun w1 b1 k1 s1 => ?_)
  refine M.share_j (fun vals w' => vals = [vi (if most < 0 ∨ 65536 < most then 0 else most)] ∧ w' = w1) ?_ ?_
  · rintro vals w2 ⟨rfl, rfl⟩ _
    simp only [List.getD_cons_zero, List.getD_cons_succ]
    refine M.pure_i (.agg ⟨[.slice none 0 0, vi (if most < 0 ∨ 65536 < most then 0 else most)]⟩) (fun _ => by kernel_rfl) ?_
    refine rout b1 rfl two_one (fun w3 k3 => ?_)
    exact ⟨⟨none, 0, rfl, .inl rfl⟩, k1.trans k3 (fun b hb h => by omega)⟩
  · intro K hK
    by_cases h1 : most < 0
    · rw [if_pos (.inl h1)] at hK
      (repeat (first|refine ji ?_|refine jk ?_|refine jo ?_|refine jy ?_))
      exact hK _ _ ⟨rfl, rfl⟩
    · by_cases h2 : 65536 < most
      · rw [if_pos (.inr h2)] at hK
        (repeat (first|refine jg ?_|refine jl ?_|refine jo ?_|refine jz ?_|refine jC ?_))
        exact hK _ _ ⟨rfl, rfl⟩
      · rw [if_neg (by omega)] at hK
        (repeat (first|refine jg ?_|refine jl ?_|refine jp ?_|refine jz ?_|refine jD ?_))
        exact hK _ _ ⟨rfl, rfl⟩
structure RB (w w' : World) (v : Value) (p3 p6 : Nat) (l : List Value) : Prop where
  k : Keep w w' No
  b3 : Blk w' p3 l
  b6 : ∃ x y, Blk w' p6 [x, y]
  e : v = .agg ⟨l⟩
  len : l.length = 2
  one : ∀ x ∈ l, x.oneCell' = true
  n3 : w.heap.size ≤ p3
  n6 : w.heap.size ≤ p6
  ne : p3 ≠ p6
theorem RB.step {w w' w2 : World} {v : Value} {p3 p6 : Nat} {l : List Value} (h : RB w w' v p3 p6 l) (k : Keep w' w2 No) : RB w w2 v p3 p6 l :=
  ⟨h.k.trans k (fun _ _ h => h), h.b3.keep k (fun h => h), by obtain ⟨x, y, b⟩ := h.b6; exact ⟨x, y, b.keep k (fun h => h)⟩, h.e, h.len, h.one, h.n3, h.n6, h.ne⟩
theorem RB.no {w w' : World} {p3 p6 : Nat} {l : List Value} {k : Kt} {i e : Int} (h : RB w w' v p3 p6 l) (hd : RD w D v N most) (hk : ∀ r w', RAsk w D most (N, i, e) r w' → k r w') :
    M.loadA 2 (ptr p3) (fun t w => M.store 2 (ptr p6) t (fun _ w => M.loadA 2 (ptr p6) (fun r0 w => k (.tuple #[r0, vi i, vi e]) w) w) w) w' := by
  obtain ⟨x, y, b6⟩ := h.b6
  have n6 := h.n6
  refine rback (R := fun r0 w => k (.tuple #[r0, vi i, vi e]) w) h.b3 b6 h.len h.one (fun w2 k2 => hk _ _ ?_)
  have k2' : Keep w w2 No := h.k.trans k2 (fun b hb h => by omega)
  rw [← h.e]
  exact ⟨v, rfl, (hd.keep k2' (fun _ _ _ h => h)).mono (fun _ _ h => .inl h), k2'⟩
theorem RB.make {w w' : World} {p3 p6 : Nat} {l : List Value} {k : Kt} {n : Nd} (h : RB w w' v p3 p6 l) (hd : RD w D v N most) (hN : N.length ≤ 1000000) (hk : ∀ r w', RAsk w D most (madeN most N n) r w' → k r w') :
    M.call Tryz.prog 80 #[v, encN n] (fun t28 w => M.extract 0 t28 (fun t29 w => M.extract 1 t28 (fun t30 w => M.extract 2 t28 (fun t31 w => M.store 2 (ptr p6) t29 (fun _ w => M.loadA 2 (ptr p6) (fun r0 w => k (.tuple #[r0, t30, t31]) w) w) w) w) w) w) w' := by
  have hd0 := (hd.mono (D' := fun b => D b ∧ b < w.heap.size) (fun b hb h => ⟨h, hb⟩)).keep h.k (fun _ _ _ h => h)
  refine M.call_i (rmade_ret hd0 hN n) ?_
  rintro _ w2 ⟨d, rfl, hd2, k2⟩
  have hp6 : p6 < w'.heap.size := by
    obtain ⟨x, y, b6⟩ := h.b6
    exact b6.lt
  refine M.extract_i rfl ?_
  refine M.extract_i rfl ?_
  refine M.extract_i rfl ?_
  have h2 := h.step k2
  obtain ⟨x, y, b6⟩ := h2.b6
  obtain ⟨A, c, rfl, hr⟩ := id hd2
  have n6 := h.n6
  refine rout (R := fun r0 w => k (.tuple #[r0, vi (madeN most N n).2.1, vi (madeN most N n).2.2]) w) b6 rfl two_one (fun w3 k3 => hk _ _ ?_)
  have k3' : Keep w w3 No := h2.k.trans k3 (fun b hb h => by omega)
  have q := h.k.size
  refine ⟨_, rfl, (hd2.keep k3 (fun b hb h1 h2 => ?_)).mono (fun b _ h => ?_), k3'⟩
  · have h2 : b = p6 := h2
    rcases h1 with h1 | h1 <;> omega
  · rcases h with h | h
    · exact .inl h.1
    · exact .inr (by omega)
theorem rconst_ret (hd : RD w D v N most) (hN : N.length ≤ 1000000) (n : Int) (x : W64) :
    Ret Tryz.prog 50 #[v, vi n, vw x] w (RAsk w D most (constN most N n x)) := by
  obtain ⟨A, c, rfl, hr⟩ := id hd
  refine ok50 _ _ _ _ _ ?_
  unfold sh50
  refine M.new_i (l := [.slice A N.length c, vi most]) (fun w1 b1 k1 s1 => ?_)
  refine M.new_i (l := [.slice none 0 0, vi 0]) (fun w2 b2 k2 s2 => ?_)
  have hb : RB w w2 (.agg ⟨[.slice A N.length c, vi most]⟩) w.heap.size w1.heap.size [.slice A N.length c, vi most] := ⟨k1.trans k2 (fun _ _ h => h), b1.keep k2 (fun h => h), ⟨_, _, b2⟩, rfl, rfl, two_one, Nat.le_refl _, by omega, by omega⟩
  refine M.call_i (rfits_ret n w2) ?_; rintro _ w3 ⟨rfl, rfl⟩
  refine M.not_i ?_
  unfold constN
  cases hf : fitsB n with
  | false =>
    (repeat (refine jo ?_))
    exact hb.no hd (fun _ _ h => h)
  | true =>
    (repeat (first|refine jd ?_|refine jp ?_))
    have hb := hb.step (Keep.drew w3 No)
    have b3 := hb.b3
    refine M.loadAll_i b3 rfl ?_
    refine M.call_i (rcut_ret n x w3.drew) ?_; rintro _ w4 ⟨rfl, rfl⟩
    refine ⟨M.loadAll_i b3 rfl rfl, ?_⟩
    refine M.pure_i (encN ⟨20, n, 0, 0, 0, cutW n x⟩) (fun _ => by kernel_rfl) ?_
    exact hb.make hd hN (fun _ _ h => h)
theorem runary_ask (hd : RD w D v N most) (hN : N.length ≤ 1000000) (op a : Int) :
    Ret Tryz.prog 52 #[v, vi op, vi a] w (RAsk w D most (unaryN most N op a)) := by
  obtain ⟨A, c, rfl, hr⟩ := id hd
  refine ok52 _ _ _ _ _ ?_
  unfold sh52
  refine M.new_i (l := [.slice A N.length c, vi most]) (fun w1 b1 k1 s1 => ?_)
  refine M.new_i (l := [.slice none 0 0, vi 0]) (fun w2 b2 k2 s2 => ?_)
  have hb : RB w w2 (.agg ⟨[.slice A N.length c, vi most]⟩) w.heap.size w1.heap.size [.slice A N.length c, vi most] := ⟨k1.trans k2 (fun _ _ h => h), b1.keep k2 (fun h => h), ⟨_, _, b2⟩, rfl, rfl, two_one, Nat.le_refl _, by omega, by omega⟩
  unfold unaryN
  by_cases ho : op ≠ 15 ∧ op ≠ 16
  · have h1 := ho.1
    have h2 := ho.2
    rw [if_pos ho]
    (repeat (first|refine jf ?_|refine jk ?_|refine jo ?_|refine jI ?_))
    exact hb.no hd (fun _ _ h => h)
  rw [if_neg ho]
  have go : ∀ {k : Kt}, (isN N a = false → ∀ w3, RB w w3 (.agg ⟨[.slice A N.length c, vi most]⟩) w.heap.size w1.heap.size [.slice A N.length c, vi most] → k (.bool true) w3) → (isN N a = true → ∀ w3, RB w w3 (.agg ⟨[.slice A N.length c, vi most]⟩) w.heap.size w1.heap.size [.slice A N.length c, vi most] → k (.bool false) w3) →
      M.loadA 2 (ptr w.heap.size) (fun t16 w => M.call Tryz.prog 38 #[t16, vi a] (fun t18 w => M.not t18 k w) w) w2 := by
    intro k h1 h2
    refine M.loadAll_i hb.b3 rfl ?_
    refine M.call_i (ris_ret (hd.keep hb.k (fun _ _ _ h => h)) a) ?_; rintro _ w3 ⟨rfl, k3⟩
    refine M.not_i ?_
    cases ha : isN N a with
    | false => exact h1 ha w3 (hb.step k3)
    | true => exact h2 ha w3 (hb.step k3)
  have rest : isN N a = true → ∀ w3, RB w w3 (.agg ⟨[.slice A N.length c, vi most]⟩) w.heap.size w1.heap.size [.slice A N.length c, vi most] → ∀ {k : Kt}, (∀ w4, RB w w4 (.agg ⟨[.slice A N.length c, vi most]⟩) w.heap.size w1.heap.size [.slice A N.length c, vi most] → k (vi (wdN N a)) w4) → M.call Tryz.prog 15 #[.agg ⟨[.slice A N.length c, vi most]⟩, vi a] k w3 := by
    intro ha w3 h3 k hk
    refine M.call_i (rwidth_ret (hd.keep h3.k (fun _ _ _ h => h)) a) ?_; rintro _ w4 ⟨rfl, k4⟩
    exact hk w4 (h3.step k4)
  rcases (by omega : op = 15 ∨ op = 16) with rfl | rfl
  · (repeat (first|refine jh ?_|refine jl ?_|refine jp ?_|refine jJ ?_))
    refine go (fun ha w3 h3 => ?_) (fun ha w3 h3 => ?_)
    · rw [if_pos ha]
      (repeat (refine jo ?_))
      exact h3.no hd (fun _ _ h => h)
    · rw [if_neg (by simp [ha])]
      (repeat (first|refine jd ?_|refine jp ?_))
      have h4 := h3.step (Keep.drew w3 No)
      refine M.loadAll_i h4.b3 rfl ?_
      refine M.loadAll_i h4.b3 rfl ?_
      refine rest ha _ h4 (fun w5 h5 => ?_)
      refine ⟨M.loadAll_i h5.b3 rfl rfl, ?_⟩
      refine M.pure_i (encN ⟨15, wdN N a, a, 0, 0, 0⟩) (fun _ => by kernel_rfl) ?_
      exact h5.make hd hN (fun _ _ h => h)
  · (repeat (first|refine jf ?_|refine jk ?_|refine jp ?_|refine jI ?_|refine jJ ?_))
    refine go (fun ha w3 h3 => ?_) (fun ha w3 h3 => ?_)
    · rw [if_pos ha]
      (repeat (refine jo ?_))
      exact h3.no hd (fun _ _ h => h)
    · rw [if_neg (by simp [ha])]
      (repeat (first|refine jd ?_|refine jp ?_))
      have h4 := h3.step (Keep.drew w3 No)
      refine M.loadAll_i h4.b3 rfl ?_
      refine M.loadAll_i h4.b3 rfl ?_
      refine rest ha _ h4 (fun w5 h5 => ?_)
      refine ⟨M.loadAll_i h5.b3 rfl rfl, ?_⟩
      refine M.pure_i (encN ⟨16, wdN N a, a, 0, 0, 0⟩) (fun _ => by kernel_rfl) ?_
      exact h5.make hd hN (fun _ _ h => h)
end
end Go.Proofs.YtnbcglnefoinlaaGreat
