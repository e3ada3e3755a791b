import Derived.Test.YtanjlgafjgoaaaaGreatK6
import Derived.Lib.AppendZerosOnto
namespace Go.Proofs.YtanjlgafjgoaaaaGreat
open Go.Mw
set_option linter.unusedVariables false
set_option linter.unusedSimpArgs false
set_option maxRecDepth 100000
attribute [local irreducible] M.val M.unit M.next M.pick M.new M.nilCheck M.load1 M.loadA M.store M.fieldAddr M.indexSl M.indexArr M.slice M.makeSlice M.buildSlice M.len M.lenS M.cap M.append M.extract M.conv M.not M.neg M.bin M.shift M.eqB M.eqNil M.scat M.call M.callv M.gd M.share M.cond M.loop M.draw pureW readW Ret
def sh79 (x0 : Value) (R : Kt) (w : World) : Prop :=
  M.bin .lss x0 (Value.int IntKind.i64 1) (fun t4 w =>
  M.gd t4 false (fun k w => k x0 w) (fun t6 w =>
  M.gd t4 false (fun k w => M.bin .gtr t6 (Value.int IntKind.i64 15) k w) (fun t7 w =>
  M.pick t4 (Value.bool true) t7 (fun t8 w =>
  M.cond t8
  (R (Value.string { data := #[] }) w)
  (pureW Tryz.prog (Instr.build 155 #[(0, (Value.string { data := #[99, 111, 110, 115, 116] })), (1, (Value.string { data := #[109, 111, 118, 101] })), (2, (Value.string { data := #[98, 105, 110, 97, 114, 121] })), (3, (Value.string { data := #[117, 110, 97, 114, 121] })), (4, (Value.string { data := #[106, 117, 109, 112] })), (5, (Value.string { data := #[98, 114, 97, 110, 99, 104] })), (6, (Value.string { data := #[108, 111, 97, 100] })), (7, (Value.string { data := #[115, 116, 111, 114, 101] })), (8, (Value.string { data := #[105, 110, 112, 117, 116] })), (9, (Value.string { data := #[114, 101, 97, 100] })), (10, (Value.string { data := #[119, 114, 105, 116, 101] })), (11, (Value.string { data := #[102, 108, 117, 115, 104] })), (12, (Value.string { data := #[98, 97, 114, 114, 105, 101, 114] })), (13, (Value.string { data := #[104, 97, 108, 116] })), (14, (Value.string { data := #[116, 114, 97, 112] }))]) (fun t9 w =>
  M.bin .sub x0 (Value.int IntKind.i64 1) (fun t11 w =>
  pureW Tryz.prog (Instr.index 155 t9 t11) (fun t12 w =>
  R t12 w) w) w) w)) w) w) w) w
theorem ok79 (x0 : Value) (R : Kt) (w : World) (h : sh79 x0 R w) : Ret Tryz.prog 79 #[x0] w R :=
  ret_mk <| calls_of_comp mixed (c := Tryz.f79.body.getD .skip) (args := [x0]) (rs := [(ResultVar.tmp 2)]) (Ann.seq Ann.text (Ann.seq (Ann.seq Ann.text (Ann.cond (Ann.seq Ann.text Ann.leaf) Ann.leaf)) (Ann.seq Ann.text Ann.leaf)))
    Tryz.func79 (by kernel_rfl) (by kernel_rfl)
    (Eq.mp (by kernel_rfl) h)
def sh80 (x0 : Value) (R : Kt) (w : World) : Prop :=
  M.share (fun K1 w =>
  M.share (fun K2 w =>
  M.bin .eql x0 (Value.int IntKind.i64 3) (fun t6 w =>
  M.cond t6
  (R (Value.string { data := #[65, 66, 67, 73] }) w)
  (M.bin .eql x0 (Value.int IntKind.i64 4) (fun t8 w =>
  M.cond t8
  (R (Value.string { data := #[65, 66, 73] }) w)
  (M.share (fun K3 w =>
  M.bin .eql x0 (Value.int IntKind.i64 2) (fun t10 w =>
  M.cond t10
  (K3 [t10] w)
  (M.bin .eql x0 (Value.int IntKind.i64 7) (fun t11 w =>
  M.cond t11
  (K3 [t11] w)
  (M.bin .eql x0 (Value.int IntKind.i64 8) (fun t12 w =>
  M.cond t12
  (K3 [t12] w)
  (M.bin .eql x0 (Value.int IntKind.i64 10) (fun t13 w =>
  M.cond t13
  (K3 [t13] w)
  (M.bin .eql x0 (Value.int IntKind.i64 11) (fun t14 w =>
  K3 [t14] w) w)) w)) w)) w)) w) (fun s3 w => ∀ _ : List Value,
  M.cond (s3.getD 0 undef)
  (R (Value.string { data := #[65, 66] }) w)
  (M.bin .eql x0 (Value.int IntKind.i64 14) (fun t16 w =>
  M.cond t16
  (R (Value.string { data := #[65] }) w)
  (M.share (fun K4 w =>
  M.bin .eql x0 (Value.int IntKind.i64 1) (fun t18 w =>
  M.cond t18
  (K4 [t18] w)
  (M.bin .eql x0 (Value.int IntKind.i64 6) (fun t19 w =>
  M.cond t19
  (K4 [t19] w)
  (M.bin .eql x0 (Value.int IntKind.i64 9) (fun t20 w =>
  K4 [t20] w) w)) w)) w) (fun s4 w => ∀ _ : List Value,
  M.cond (s4.getD 0 undef)
  (K2 [(Value.string { data := #[65] })] w)
  (M.share (fun K5 w =>
  M.bin .eql x0 (Value.int IntKind.i64 5) (fun t22 w =>
  M.cond t22
  (K5 [t22] w)
  (M.bin .eql x0 (Value.int IntKind.i64 15) (fun t23 w =>
  K5 [t23] w) w)) w) (fun s5 w => ∀ _ : List Value,
  M.cond (s5.getD 0 undef)
  (K2 [(Value.string { data := #[] })] w)
  (K1 [(Value.string { data := #[] })] w)) w)) w)) w)) w)) w)) w) (fun s2 w => ∀ _ : List Value,
  M.scat (s2.getD 0 undef) (Value.string { data := #[73] }) (fun t25 w =>
  K1 [t25] w) w) w) (fun s1 w => ∀ _ : List Value,
  R (s1.getD 0 undef) w) w
theorem ok80 (x0 : Value) (R : Kt) (w : World) (h : sh80 x0 R w) : Ret Tryz.prog 80 #[x0] w R :=
  ret_mk <| calls_of_comp mixed (c := Tryz.f80.body.getD .skip) (args := [x0]) (rs := [(ResultVar.tmp 2)]) (Ann.seq Ann.text (Ann.seq Ann.text (Ann.seq (Ann.seq Ann.text (Ann.jblock [3] [2, 5, 6, 7, 8, 9, 10, 11, 12, 13, 14, 15, 16, 17, 18, 19, 20, 21, 22, 23, 24, 25] (Ann.seq (Ann.jblock [3] [2, 5, 6, 7, 8, 9, 10, 11, 12, 13, 14, 15, 16, 17, 18, 19, 20, 21, 22, 23] (Ann.seq (Ann.block (Ann.seq (Ann.block (Ann.seq (Ann.block (Ann.seq (Ann.block (Ann.seq (Ann.block (Ann.seq (Ann.seq (Ann.seq Ann.text (Ann.cond Ann.leaf Ann.leaf)) (Ann.seq (Ann.seq Ann.text (Ann.cond Ann.leaf Ann.leaf)) (Ann.seq (Ann.join [9] [10, 11, 12, 13, 14] (Ann.seq Ann.text (Ann.cond Ann.leaf (Ann.seq Ann.text (Ann.cond Ann.leaf (Ann.seq Ann.text (Ann.cond Ann.leaf (Ann.seq Ann.text (Ann.cond Ann.leaf Ann.text)))))))) (Ann.cond Ann.leaf Ann.leaf)) (Ann.seq (Ann.seq Ann.text (Ann.cond Ann.leaf Ann.leaf)) (Ann.seq (Ann.join [17] [18, 19, 20] (Ann.seq Ann.text (Ann.cond Ann.leaf (Ann.seq Ann.text (Ann.cond Ann.leaf Ann.text)))) (Ann.cond Ann.leaf Ann.leaf)) (Ann.join [21] [22, 23] (Ann.seq Ann.text (Ann.cond Ann.leaf Ann.text)) (Ann.cond Ann.leaf Ann.leaf))))))) Ann.leaf)) (Ann.seq (Ann.seq Ann.text Ann.leaf) Ann.leaf))) (Ann.seq (Ann.seq Ann.text Ann.leaf) Ann.leaf))) (Ann.seq (Ann.seq Ann.text Ann.leaf) Ann.leaf))) (Ann.seq (Ann.seq Ann.text Ann.leaf) Ann.leaf))) Ann.text)) (Ann.seq Ann.text Ann.leaf)))) (Ann.seq Ann.text Ann.leaf))))
    Tryz.func80 (by kernel_rfl) (by kernel_rfl)
    (Eq.mp (by kernel_rfl) h)
def sh42 (x0 : Value) (R : Kt) (w : World) : Prop :=
  M.new 61 (Value.cells x0) (fun t1 w =>
  M.fieldAddr 0 t1 (fun t7 w =>
  M.load1 t7 (fun t8 w =>
  M.call Tryz.prog 79 #[t8] (fun t9 w =>
  M.val Tryz.prog (do eqGuard .eql 9 (Operand.tmp 9) (Operand.const (Value.string { data := #[] })) t9 (Value.string { data := #[] }); binOp .eql 9 t9 (Value.string { data := #[] })) (fun t10 w =>
  M.cond t10
  (R (Value.int IntKind.i64 3) w)
  (M.fieldAddr 0 t1 (fun t11 w =>
  M.load1 t11 (fun t12 w =>
  M.call Tryz.prog 80 #[t12] (fun t13 w =>
  M.fieldAddr 1 t1 (fun t14 w =>
  M.load1 t14 (fun t15 w =>
  pureW Tryz.prog (Instr.build 135 #[(0, (Value.string { data := #[65] })), (1, t15)]) (fun t16 w =>
  M.fieldAddr 2 t1 (fun t17 w =>
  M.load1 t17 (fun t18 w =>
  pureW Tryz.prog (Instr.build 135 #[(0, (Value.string { data := #[66] })), (1, t18)]) (fun t19 w =>
  M.fieldAddr 3 t1 (fun t20 w =>
  M.load1 t20 (fun t21 w =>
  pureW Tryz.prog (Instr.build 135 #[(0, (Value.string { data := #[67] })), (1, t21)]) (fun t22 w =>
  pureW Tryz.prog (Instr.build 136 #[(0, t16), (1, t19), (2, t22)]) (fun t23 w =>
  M.loop [(Value.int IntKind.i64 0), (Value.int IntKind.i64 0)] (fun s1 K1 w => ∀ _ : List Value,
  M.bin .lss (s1.getD 1 undef) (Value.int IntKind.i64 3) (fun t25 w =>
  M.cond t25
  (pureW Tryz.prog (Instr.index 136 t23 (s1.getD 1 undef)) (fun t26 w =>
  M.new 135 #[.string ByteArray.empty, .int .i64 0] (fun t6 w =>
  M.store 2 t6 t26 (fun _ w =>
  M.share (fun K2 w =>
  M.fieldAddr 0 t6 (fun t29 w =>
  M.load1 t29 (fun t30 w =>
  M.call Tryz.prog 81 #[t13, t30] (fun t31 w =>
  M.not t31 (fun t32 w =>
  M.cond t32
  (M.fieldAddr 1 t6 (fun t33 w =>
  M.load1 t33 (fun t34 w =>
  M.bin .neq t34 (Value.int IntKind.i64 0) (fun t35 w =>
  M.cond t35
  (R (Value.int IntKind.i64 5) w)
  (K2 [(s1.getD 0 undef)] w)) w) w) w)
  (M.fieldAddr 1 t6 (fun t37 w =>
  M.load1 t37 (fun t38 w =>
  M.bin .lss t38 (Value.int IntKind.i64 0) (fun t39 w =>
  M.gd t39 false (fun k w => M.fieldAddr 1 t6 k w) (fun t41 w =>
  M.gd t39 false (fun k w => M.load1 t41 k w) (fun t42 w =>
  M.gd t39 false (fun k w => M.bin .geq t42 (Value.int IntKind.i64 8) k w) (fun t43 w =>
  M.pick t39 (Value.bool true) t43 (fun t44 w =>
  M.cond t44
  (K2 [(Value.int IntKind.i64 14)] w)
  (K2 [(s1.getD 0 undef)] w)) w) w) w) w) w) w) w)) w) w) w) w) (fun s2 w => ∀ _ : List Value,
  M.bin .add (s1.getD 1 undef) (Value.int IntKind.i64 1) (fun t45 w =>
  K1 [(s2.getD 0 undef), t45] w) w) w) w) w) w)
  (M.call Tryz.prog 81 #[t13, (Value.string { data := #[73] })] (fun t47 w =>
  M.not t47 (fun t48 w =>
  M.gd t48 true (fun k w => M.fieldAddr 4 t1 k w) (fun t50 w =>
  M.gd t48 true (fun k w => M.load1 t50 k w) (fun t51 w =>
  M.gd t48 true (fun k w => M.bin .neq t51 (Value.int IntKind.u64 0) k w) (fun t52 w =>
  M.pick t48 t52 (Value.bool false) (fun t53 w =>
  M.cond t53
  (R (Value.int IntKind.i64 5) w)
  (R (s1.getD 0 undef) w)) w) w) w) w) w) w)) w) w) w) w) w) w) w) w) w) w) w) w) w) w) w)) w) w) w) w) w
theorem ok42 (x0 : Value) (R : Kt) (w : World) (h : sh42 x0 R w) : Ret Tryz.prog 42 #[x0] w R :=
  ret_mk <| calls_of_comp mixed (c := Tryz.f42.body.getD .skip) (args := [x0]) (rs := [(ResultVar.tmp 2)]) (Ann.seq Ann.text (Ann.seq (Ann.seq Ann.text (Ann.cond (Ann.seq Ann.text Ann.leaf) Ann.leaf)) (Ann.seq Ann.text (Ann.seq Ann.text (Ann.seq (Ann.seq Ann.text (Ann.block (Ann.loop [4, 24] [2, 6, 25, 26, 27, 28, 29, 30, 31, 32, 33, 34, 35, 36, 37, 38, 39, 40, 41, 42, 43, 44, 45] (Ann.seq Ann.text (Ann.seq (Ann.cond Ann.leaf Ann.leaf) (Ann.seq (Ann.block (Ann.seq Ann.text (Ann.jblock [4] [2, 27, 28, 29, 30, 31, 32, 33, 34, 35, 36, 37, 38, 39, 40, 41, 42, 43, 44] (Ann.seq Ann.text (Ann.cond (Ann.seq Ann.text (Ann.cond (Ann.seq Ann.text Ann.leaf) Ann.leaf)) (Ann.seq Ann.text (Ann.cond Ann.text Ann.leaf))))))) Ann.text)))))) (Ann.seq (Ann.seq Ann.text (Ann.cond (Ann.seq Ann.text Ann.leaf) Ann.leaf)) (Ann.seq Ann.text Ann.leaf)))))))
    Tryz.func42 (by kernel_rfl) (by kernel_rfl)
    (Eq.mp (by kernel_rfl) h)
def sh21 (x0 x1 x2 : Value) (R : Kt) (w : World) : Prop :=
  M.new 61 (Value.cells x0) (fun t3 w =>
  M.loadA 5 t3 (fun t8 w =>
  M.call Tryz.prog 42 #[t8] (fun t9 w =>
  M.bin .neq t9 (Value.int IntKind.i64 0) (fun t11 w =>
  M.cond t11
  (R t9 w)
  (M.fieldAddr 0 t3 (fun t13 w =>
  M.load1 t13 (fun t14 w =>
  M.share (fun K1 w =>
  M.bin .eql t14 (Value.int IntKind.i64 3) (fun t16 w =>
  M.cond t16
  (M.fieldAddr 4 t3 (fun t17 w =>
  M.load1 t17 (fun t18 w =>
  M.bin .lss t18 (Value.int IntKind.u64 1) (fun t19 w =>
  M.gd t19 false (fun k w => M.fieldAddr 4 t3 k w) (fun t21 w =>
  M.gd t19 false (fun k w => M.load1 t21 k w) (fun t22 w =>
  M.gd t19 false (fun k w => M.bin .gtr t22 (Value.int IntKind.u64 14) k w) (fun t23 w =>
  M.pick t19 (Value.bool true) t23 (fun t24 w =>
  M.cond t24
  (R (Value.int IntKind.i64 3) w)
  (K1 [] w)) w) w) w) w) w) w) w)
  (M.bin .eql t14 (Value.int IntKind.i64 4) (fun t26 w =>
  M.cond t26
  (M.fieldAddr 4 t3 (fun t27 w =>
  M.load1 t27 (fun t28 w =>
  M.bin .neq t28 (Value.int IntKind.u64 15) (fun t29 w =>
  M.gd t29 true (fun k w => M.fieldAddr 4 t3 k w) (fun t31 w =>
  M.gd t29 true (fun k w => M.load1 t31 k w) (fun t32 w =>
  M.gd t29 true (fun k w => M.bin .neq t32 (Value.int IntKind.u64 16) k w) (fun t33 w =>
  M.pick t29 t33 (Value.bool false) (fun t34 w =>
  M.cond t34
  (R (Value.int IntKind.i64 3) w)
  (K1 [] w)) w) w) w) w) w) w) w)
  (M.share (fun K2 w =>
  M.bin .eql t14 (Value.int IntKind.i64 5) (fun t36 w =>
  M.cond t36
  (K2 [t36] w)
  (M.bin .eql t14 (Value.int IntKind.i64 6) (fun t37 w =>
  K2 [t37] w) w)) w) (fun s2 w => ∀ _ : List Value,
  M.cond (s2.getD 0 undef)
  (M.bin .lss x2 (Value.int IntKind.i64 0) (fun t39 w =>
  M.gd t39 false (fun k w => M.fieldAddr 4 t3 k w) (fun t41 w =>
  M.gd t39 false (fun k w => M.load1 t41 k w) (fun t42 w =>
  M.gd t39 false (fun k w => k x2 w) (fun t43 w =>
  M.gd t39 false (fun k w => M.conv .u64 t43 k w) (fun t44 w =>
  M.gd t39 false (fun k w => M.bin .geq t42 t44 k w) (fun t45 w =>
  M.pick t39 (Value.bool true) t45 (fun t46 w =>
  M.cond t46
  (R (Value.int IntKind.i64 15) w)
  (K1 [] w)) w) w) w) w) w) w) w)
  (M.bin .eql t14 (Value.int IntKind.i64 9) (fun t48 w =>
  M.cond t48
  (M.bin .neq x1 (Value.int IntKind.i64 0) (fun t50 w =>
  M.cond t50
  (R (Value.int IntKind.i64 16) w)
  (M.fieldAddr 4 t3 (fun t51 w =>
  M.load1 t51 (fun t52 w =>
  M.bin .geq t52 (Value.int IntKind.u64 4) (fun t53 w =>
  M.cond t53
  (R (Value.int IntKind.i64 4) w)
  (K1 [] w)) w) w) w)) w)
  (M.bin .eql t14 (Value.int IntKind.i64 15) (fun t55 w =>
  M.cond t55
  (M.fieldAddr 4 t3 (fun t56 w =>
  M.load1 t56 (fun t57 w =>
  M.bin .eql t57 (Value.int IntKind.u64 0) (fun t58 w =>
  M.gd t58 false (fun k w => M.fieldAddr 4 t3 k w) (fun t60 w =>
  M.gd t58 false (fun k w => M.load1 t60 k w) (fun t61 w =>
  M.gd t58 false (fun k w => M.bin .gtr t61 (Value.int IntKind.u64 255) k w) (fun t62 w =>
  M.pick t58 (Value.bool true) t62 (fun t63 w =>
  M.cond t63
  (R (Value.int IntKind.i64 4) w)
  (K1 [] w)) w) w) w) w) w) w) w)
  (K1 [] w)) w)) w)) w)) w)) w) (fun s1 w => ∀ _ : List Value,
  R (Value.int IntKind.i64 0) w) w) w) w)) w) w) w) w
theorem ok21 (x0 x1 x2 : Value) (R : Kt) (w : World) (h : sh21 x0 x1 x2 R w) : Ret Tryz.prog 21 #[x0, x1, x2] w R :=
  ret_mk <| calls_of_comp mixed (c := Tryz.f21.body.getD .skip) (args := [x0, x1, x2]) (rs := [(ResultVar.tmp 6)]) (Ann.seq Ann.text (Ann.seq (Ann.seq Ann.text (Ann.seq Ann.text (Ann.cond (Ann.seq Ann.text Ann.leaf) Ann.leaf))) (Ann.seq (Ann.seq Ann.text (Ann.jblock [] [6, 15, 16, 17, 18, 19, 20, 21, 22, 23, 24, 25, 26, 27, 28, 29, 30, 31, 32, 33, 34, 35, 36, 37, 38, 39, 40, 41, 42, 43, 44, 45, 46, 47, 48, 49, 50, 51, 52, 53, 54, 55, 56, 57, 58, 59, 60, 61, 62, 63] (Ann.seq Ann.text (Ann.cond (Ann.seq Ann.text (Ann.cond (Ann.seq Ann.text Ann.leaf) Ann.leaf)) (Ann.seq Ann.text (Ann.cond (Ann.seq Ann.text (Ann.cond (Ann.seq Ann.text Ann.leaf) Ann.leaf)) (Ann.join [35] [36, 37] (Ann.seq Ann.text (Ann.cond Ann.leaf Ann.text)) (Ann.cond (Ann.seq Ann.text (Ann.cond (Ann.seq Ann.text Ann.leaf) Ann.leaf)) (Ann.seq Ann.text (Ann.cond (Ann.seq (Ann.seq Ann.text (Ann.cond (Ann.seq Ann.text Ann.leaf) Ann.leaf)) (Ann.seq Ann.text (Ann.cond (Ann.seq Ann.text Ann.leaf) Ann.leaf))) (Ann.seq Ann.text (Ann.cond (Ann.seq Ann.text (Ann.cond (Ann.seq Ann.text Ann.leaf) Ann.leaf)) Ann.leaf)))))))))))) (Ann.seq Ann.text Ann.leaf))))
    Tryz.func21 (by kernel_rfl) (by kernel_rfl)
    (Eq.mp (by kernel_rfl) h)
def shpB (op : Int) : Tx := (if hasA op then [65] else []) ++ (if hasB op then [66] else []) ++ (if hasC op then [67] else []) ++ (if hasI op then [73] else [])
theorem name37_ret (op : Int) (w : World) : Ret Tryz.prog 79 #[vi op] w (fun r w' => ∃ s, r = xs8 s ∧ (s = [] ↔ ¬ (1 ≤ op ∧ op ≤ 15)) ∧ w' = w) := by
  refine ok79 _ _ _ ?_
  unfold sh79
  by_cases h1 : op < 1
  · (repeat (first|refine ji ?_|refine jk ?_|refine jo ?_|refine jy ?_))
    exact ⟨[], rfl, by simp; omega, rfl⟩
  by_cases h2 : 15 < op
  · (repeat (first|refine jg ?_|refine jl ?_|refine jo ?_|refine jz ?_|refine jC ?_))
    exact ⟨[], rfl, by simp; omega, rfl⟩
  (repeat (first|refine jg ?_|refine jl ?_|refine jp ?_|refine jz ?_|refine jD ?_))
  have nm : List Tx := [([99, 111, 110, 115, 116] : List UInt8), ([109, 111, 118, 101] : List UInt8), ([98, 105, 110, 97, 114, 121] : List UInt8), ([117, 110, 97, 114, 121] : List UInt8), ([106, 117, 109, 112] : List UInt8), ([98, 114, 97, 110, 99, 104] : List UInt8), ([108, 111, 97, 100] : List UInt8), ([115, 116, 111, 114, 101] : List UInt8), ([105, 110, 112, 117, 116] : List UInt8), ([114, 101, 97, 100] : List UInt8), ([119, 114, 105, 116, 101] : List UInt8), ([102, 108, 117, 115, 104] : List UInt8), ([98, 97, 114, 114, 105, 101, 114] : List UInt8), ([104, 97, 108, 116] : List UInt8), ([116, 114, 97, 112] : List UInt8)]
  clear nm
  have key : ∀ m : Fin 15, ∃ s : Tx, s ≠ [] ∧ (Instr.index 155 (.agg #[xs8 ([99, 111, 110, 115, 116] : List UInt8), xs8 ([109, 111, 118, 101] : List UInt8), xs8 ([98, 105, 110, 97, 114, 121] : List UInt8), xs8 ([117, 110, 97, 114, 121] : List UInt8), xs8 ([106, 117, 109, 112] : List UInt8), xs8 ([98, 114, 97, 110, 99, 104] : List UInt8), xs8 ([108, 111, 97, 100] : List UInt8), xs8 ([115, 116, 111, 114, 101] : List UInt8), xs8 ([105, 110, 112, 117, 116] : List UInt8), xs8 ([114, 101, 97, 100] : List UInt8), xs8 ([119, 114, 105, 116, 101] : List UInt8), xs8 ([102, 108, 117, 115, 104] : List UInt8), xs8 ([98, 97, 114, 114, 105, 101, 114] : List UInt8), xs8 ([104, 97, 108, 116] : List UInt8), xs8 ([116, 114, 97, 112] : List UInt8)]) (vi (m.val : Int))).run Tryz.prog = fun w => .ok (xs8 s) w := by
    intro m
    match m with
    | ⟨0, _⟩ => exact ⟨([99, 111, 110, 115, 116] : List UInt8), by decide, rfl⟩
    | ⟨1, _⟩ => exact ⟨([109, 111, 118, 101] : List UInt8), by decide, rfl⟩
    | ⟨2, _⟩ => exact ⟨([98, 105, 110, 97, 114, 121] : List UInt8), by decide, rfl⟩
    | ⟨3, _⟩ => exact ⟨([117, 110, 97, 114, 121] : List UInt8), by decide, rfl⟩
    | ⟨4, _⟩ => exact ⟨([106, 117, 109, 112] : List UInt8), by decide, rfl⟩
    | ⟨5, _⟩ => exact ⟨([98, 114, 97, 110, 99, 104] : List UInt8), by decide, rfl⟩
    | ⟨6, _⟩ => exact ⟨([108, 111, 97, 100] : List UInt8), by decide, rfl⟩
    | ⟨7, _⟩ => exact ⟨([115, 116, 111, 114, 101] : List UInt8), by decide, rfl⟩
    | ⟨8, _⟩ => exact ⟨([105, 110, 112, 117, 116] : List UInt8), by decide, rfl⟩
    | ⟨9, _⟩ => exact ⟨([114, 101, 97, 100] : List UInt8), by decide, rfl⟩
    | ⟨10, _⟩ => exact ⟨([119, 114, 105, 116, 101] : List UInt8), by decide, rfl⟩
    | ⟨11, _⟩ => exact ⟨([102, 108, 117, 115, 104] : List UInt8), by decide, rfl⟩
    | ⟨12, _⟩ => exact ⟨([98, 97, 114, 114, 105, 101, 114] : List UInt8), by decide, rfl⟩
    | ⟨13, _⟩ => exact ⟨([104, 97, 108, 116] : List UInt8), by decide, rfl⟩
    | ⟨14, _⟩ => exact ⟨([116, 114, 97, 112] : List UInt8), by decide, rfl⟩
    | ⟨n + 15, h⟩ => exact absurd h (by omega)
  refine M.pure_i (.agg #[xs8 ([99, 111, 110, 115, 116] : List UInt8), xs8 ([109, 111, 118, 101] : List UInt8), xs8 ([98, 105, 110, 97, 114, 121] : List UInt8), xs8 ([117, 110, 97, 114, 121] : List UInt8), xs8 ([106, 117, 109, 112] : List UInt8), xs8 ([98, 114, 97, 110, 99, 104] : List UInt8), xs8 ([108, 111, 97, 100] : List UInt8), xs8 ([115, 116, 111, 114, 101] : List UInt8), xs8 ([105, 110, 112, 117, 116] : List UInt8), xs8 ([114, 101, 97, 100] : List UInt8), xs8 ([119, 114, 105, 116, 101] : List UInt8), xs8 ([102, 108, 117, 115, 104] : List UInt8), xs8 ([98, 97, 114, 114, 105, 101, 114] : List UInt8), xs8 ([104, 97, 108, 116] : List UInt8), xs8 ([116, 114, 97, 112] : List UInt8)]) (fun _ => by kernel_rfl) ?_
  (repeat (refine jL ?_))
  obtain ⟨s, h3, h4⟩ := key ⟨(op - 1).toNat, by omega⟩
  refine M.pure_i (xs8 s) (fun w' => ?_) ⟨s, rfl, by constructor <;> intro h <;> first | exact absurd h h3 | exact absurd ⟨by omega, by omega⟩ h, rfl⟩
  have := congrFun h4 w'
  rw [show (((⟨(op - 1).toNat, by omega⟩ : Fin 15).val : Nat) : Int) = op - 1 by show (((op - 1).toNat : Nat) : Int) = op - 1; omega] at this
  exact this
theorem scat8_i {k : Kt} {w : World} {a b : Tx} (h : a.length + b.length ≤ 9223372036854775807) (hk : k (xs8 (a ++ b)) w) : M.scat (xs8 a) (xs8 b) k w := by
  have e : (⟨a.toArray⟩ : ByteArray) ++ ⟨b.toArray⟩ = ⟨(a ++ b).toArray⟩ := by
    apply ByteArray.ext
    simp [ByteArray.data_append]
  unfold M.scat
  exact ⟨by simpa [ByteArray.size] using h, by rw [e]; exact hk⟩
set_option maxHeartbeats 2000000 in
theorem shape_ret {op : Int} (h : 1 ≤ op ∧ op ≤ 15) (w : World) : Ret Tryz.prog 80 #[vi op] w (fun r w' => r = xs8 (shpB op) ∧ w' = w) := by
  have hc : op = 1 ∨ op = 2 ∨ op = 3 ∨ op = 4 ∨ op = 5 ∨ op = 6 ∨ op = 7 ∨ op = 8 ∨ op = 9 ∨ op = 10 ∨ op = 11 ∨ op = 12 ∨ op = 13 ∨ op = 14 ∨ op = 15 := by omega
  refine ok80 _ _ _ ?_
  unfold sh80
  rcases hc with rfl | rfl | rfl | rfl | rfl | rfl | rfl | rfl | rfl | rfl | rfl | rfl | rfl | rfl | rfl
  all_goals
    repeat (first | (first|refine jo ?_|refine jp ?_|refine jG ?_|refine jH ?_) | refine M.share_i ?_ | intro _ | simp only [List.getD_cons_zero, List.getD_cons_succ] | refine scat8_i (a := ([65] : List UInt8)) (by decide) ?_ | refine scat8_i (a := []) (by decide) ?_)
    first | exact ⟨rfl, rfl⟩ | exact ⟨rfl, trivial⟩
theorem has_first (op : Int) : decide (0 ≤ firstIdx ⟨(shpB op).toArray⟩ 65) = hasA op ∧ decide (0 ≤ firstIdx ⟨(shpB op).toArray⟩ 66) = hasB op ∧ decide (0 ≤ firstIdx ⟨(shpB op).toArray⟩ 67) = hasC op ∧ decide (0 ≤ firstIdx ⟨(shpB op).toArray⟩ 73) = hasI op := by
  unfold shpB
  generalize hasA op = a
  generalize hasB op = b
  generalize hasC op = c
  generalize hasI op = i
  cases a <;> cases b <;> cases c <;> cases i <;> decide
theorem one_has {op : Int} : (shpB op = [65] → hasA op = true) ∧ (shpB op = [66] → hasB op = true) ∧ (shpB op = [67] → hasC op = true) ∧ (shpB op = [73] → hasI op = true) := by
  unfold shpB
  generalize hasA op = a
  generalize hasB op = b
  generalize hasC op = c
  generalize hasI op = i
  cases a <;> cases b <;> cases c <;> cases i <;> decide
def fldOf (i : Ins) (k : Nat) : Bool × Int := if k = 0 then (hasA i.op, i.a) else if k = 1 then (hasB i.op, i.b) else (hasC i.op, i.c)
theorem fldHas_ret (op : Int) (k : Nat) (hk : k < 3) (w : World) : Ret Tryz.prog 81 #[xs8 (shpB op), xs8 [UInt8.ofNat (65 + k)]] w (fun r w' => r = .bool (if k = 0 then hasA op else if k = 1 then hasB op else hasC op) ∧ w' = w) := by
  obtain ⟨f1, f2, f3, _⟩ := has_first op
  obtain ⟨o1, o2, o3, _⟩ := one_has (op := op)
  refine (strHas_ret (shpB op) (UInt8.ofNat (65 + k)) w).mono ?_
  rintro r w' ⟨h | ⟨h1, h2⟩, rfl⟩
  · refine ⟨?_, rfl⟩
    match k, hk with
    | 0, _ => rw [h]; exact congrArg Value.bool f1
    | 1, _ => rw [h]; exact congrArg Value.bool f2
    | 2, _ => rw [h]; exact congrArg Value.bool f3
  · refine ⟨?_, rfl⟩
    match k, hk with
    | 0, _ => rw [h2]; exact congrArg Value.bool (o1 h1).symm
    | 1, _ => rw [h2]; exact congrArg Value.bool (o2 h1).symm
    | 2, _ => rw [h2]; exact congrArg Value.bool (o3 h1).symm
theorem fldI_ret (op : Int) (w : World) : Ret Tryz.prog 81 #[xs8 (shpB op), xs8 ([73] : List UInt8)] w (fun r w' => r = .bool (hasI op) ∧ w' = w) := by
  obtain ⟨_, _, _, f4⟩ := has_first op
  obtain ⟨_, _, _, o4⟩ := one_has (op := op)
  refine (strHas_ret (shpB op) 73 w).mono ?_
  rintro r w' ⟨h | ⟨h1, h2⟩, rfl⟩
  · exact ⟨by rw [h]; exact congrArg Value.bool f4, rfl⟩
  · exact ⟨by rw [h2]; exact congrArg Value.bool (o4 h1).symm, rfl⟩
theorem strOne (a : Tx) (i : Int) : ∀ v ∈ [xs8 a, vi i], v.oneCell' = true := by
  simp only [List.mem_cons, List.not_mem_nil, or_false, forall_eq_or_imp, forall_eq]; exact ⟨rfl, rfl⟩
set_option maxHeartbeats 2000000 in
theorem ifields_ret (i : Ins) (w : World) : Ret Tryz.prog 42 #[encI i] w (fun r w' => ∃ e, r = vi e ∧ (e = 0 ↔ ((1 ≤ i.op ∧ i.op ≤ 15) ∧ (∀ k, k < 3 → regOk (fldOf i k).1 (fldOf i k).2 = true) ∧ (hasI i.op = true ∨ i.imm.toNat = 0))) ∧ Keep w w' No) := by
  refine ok42 _ _ _ ?_
  unfold sh42
  refine M.new_i (l := i.cells) (fun w1 b1 k1 s1 => ?_)
  have b1 : Blk w1 w.heap.size [vi i.op, vi i.a, vi i.b, vi i.c, vw i.imm] := b1
  (repeat (first|refine jc ?_|refine jN (by assumption) rfl ?_))
  refine M.call_i (name37_ret i.op w1) ?_
  rintro _ w2 ⟨nm, rfl, hnm, rfl⟩
  refine M.seq8_i (a := nm) (b := []) ?_
  by_cases hop : 1 ≤ i.op ∧ i.op ≤ 15
  case neg =>
    rw [decide_eq_true (hnm.2 hop)]
    (repeat (refine jo ?_))
    exact ⟨3, rfl, ⟨fun h => absurd h (by decide), fun h => absurd h.1 hop⟩, k1⟩
  rw [decide_eq_false (fun h => hnm.1 h hop)]
  (repeat (first|refine jc ?_|refine jp ?_|refine jN (by assumption) rfl ?_))
  refine M.call_i (shape_ret hop w2) ?_; rintro _ w3 ⟨rfl, rfl⟩
  (repeat (first|refine jc ?_|refine jN (by assumption) rfl ?_))
  refine M.pure_i (.agg ⟨[xs8 [65], vi i.a]⟩) (fun _ => by kernel_rfl) ?_
  (repeat (first|refine jc ?_|refine jN (by assumption) rfl ?_))
  refine M.pure_i (.agg ⟨[xs8 [66], vi i.b]⟩) (fun _ => by kernel_rfl) ?_
  (repeat (first|refine jc ?_|refine jN (by assumption) rfl ?_))
  refine M.pure_i (.agg ⟨[xs8 [67], vi i.c]⟩) (fun _ => by kernel_rfl) ?_
  refine M.pure_i (.agg ⟨[xs8 [65], vi i.a, xs8 [66], vi i.b, xs8 [67], vi i.c]⟩) (fun _ => by kernel_rfl) ?_
  have hcell : ∀ k, k < 3 → (([xs8 [65], vi i.a, xs8 [66], vi i.b, xs8 [67], vi i.c] : List Value).drop (k * 2)).take 2 = [xs8 [UInt8.ofNat (65 + k)], vi (fldOf i k).2] := fun k hk => by
    match k, hk with
    | 0, _ => rfl
    | 1, _ => rfl
    | 2, _ => rfl
  have hfst : ∀ k, (fldOf i k).1 = (if k = 0 then hasA i.op else if k = 1 then hasB i.op else hasC i.op) := fun k => by
    unfold fldOf
    split
    · rfl
    · split <;> rfl
  generalize ([xs8 [65], vi i.a, xs8 [66], vi i.b, xs8 [67], vi i.c] : List Value) = L at hcell
  refine M.loop_i (σ := Nat) (fun k vals w' => ∃ bad : Int, vals = [vi bad, vi k] ∧ k ≤ 3 ∧ (bad = 0 ↔ ∀ j, j < k → regOk (fldOf i j).1 (fldOf i j).2 = true) ∧ Blk w' w.heap.size [vi i.op, vi i.a, vi i.b, vi i.c, vw i.imm] ∧ Keep w w' No) (fun k => 3 - k) 0 ⟨0, rfl, by omega, by simp, b1, k1⟩ ?_
  rintro k vals w4 K ⟨bad, rfl, hk, hbad, b4, k4⟩ hK _
  simp only [List.getD_cons_zero, List.getD_cons_succ]
  by_cases hlt : k < 3
  · (repeat (first|refine jo ?_|refine jy ?_))
    refine M.idxG_i (e := 135) (n := 3) (sz := 2) (by kernel_rfl) (fun _ => by kernel_rfl) (fun _ => by kernel_rfl) (by omega) (by omega) ?_
    rw [Int.toNat_natCast, hcell k hlt]
    refine M.new_i (l := [xs8 [], vi 0]) (fun w5 b5 k5 s5 => ?_)
    have b5' := b4.keep k5 (fun h => h)
    have hb4 := b4.lt
    refine M.storeAll_i (vs := [xs8 [UInt8.ofNat (65 + k)], vi (fldOf i k).2]) b5 rfl rfl (strOne _ _) (fun w6 b6 k6 s6 => ?_)
    have b6' := b5'.keep k6 (fun h => by have h : w.heap.size = w4.heap.size := h; omega)
    have k06 : Keep w w6 No := (k4.trans k5 (fun _ _ h => h)).trans k6 (fun b hb h => by have h : b = w4.heap.size := h; omega)
    have nextk : ∀ bad' : Int, (bad' = 0 ↔ bad = 0 ∧ regOk (fldOf i k).1 (fldOf i k).2 = true) → (bad' = 0 ↔ ∀ j, j < k + 1 → regOk (fldOf i j).1 (fldOf i j).2 = true) := fun bad' h => by
      rw [h, hbad]
      constructor
      · rintro ⟨h1, h2⟩ j hj
        by_cases e : j = k
        · subst e; exact h2
        · exact h1 j (by omega)
      · exact fun h => ⟨fun j hj => h j (by omega), h k (by omega)⟩
    refine M.share_j (fun vals w' => ∃ bad' : Int, vals = [vi bad'] ∧ (bad' = 0 ↔ bad = 0 ∧ regOk (fldOf i k).1 (fldOf i k).2 = true) ∧ w6 = w') ?_ ?_
    · rintro vals w' ⟨bad', rfl, hb', rfl⟩ _
      simp only [List.getD_cons_zero, List.getD_cons_succ]
      (repeat (refine jK ?_))
      exact hK (k + 1) _ _ (by omega) ⟨bad', rfl, by omega, nextk bad' hb', b6', k06⟩
    · intro K2 hK2
      (repeat (first|refine jc ?_|refine jN (by assumption) rfl ?_))
      refine M.call_i (fldHas_ret i.op k hlt w6) ?_; rintro _ w7 ⟨rfl, rfl⟩
      rw [← hfst k]
      unfold regOk at hK2
      cases hh : (fldOf i k).1 with
      | false =>
        rw [hh] at hK2
        by_cases h0 : (fldOf i k).2 = 0
        · (repeat (first|refine jc ?_|refine jn ?_|refine jo ?_|refine jp ?_|refine jJ ?_|refine jN (by assumption) rfl ?_))
          exact hK2 _ _ ⟨bad, rfl, by simp [h0], rfl⟩
        · (repeat (first|refine jc ?_|refine jn ?_|refine jo ?_|refine jI ?_|refine jN (by assumption) rfl ?_))
          refine ⟨5, rfl, ⟨fun h => absurd h (by decide), fun h => ?_⟩, k06⟩
          have := h.2.1 k hlt
          unfold regOk at this
          rw [hh] at this
          simp at this
          exact absurd this h0
      | true =>
        rw [hh] at hK2
        by_cases h0 : (fldOf i k).2 < 0
        · (repeat (first|refine jc ?_|refine ji ?_|refine jk ?_|refine jm ?_|refine jo ?_|refine jp ?_|refine jy ?_|refine jN (by assumption) rfl ?_))
          exact hK2 _ _ ⟨14, rfl, ⟨fun h => absurd h (by decide), fun h => by have := h.2; simp at this; omega⟩, rfl⟩
        · by_cases h8 : (fldOf i k).2 ≥ 8
          · (repeat (first|refine jc ?_|refine jg ?_|refine jl ?_|refine jm ?_|refine jo ?_|refine jp ?_|refine jz ?_|refine jE ?_|refine jN (by assumption) rfl ?_))
            exact hK2 _ _ ⟨14, rfl, ⟨fun h => absurd h (by decide), fun h => by have := h.2; simp at this; omega⟩, rfl⟩
          · (repeat (first|refine jc ?_|refine jg ?_|refine jl ?_|refine jm ?_|refine jp ?_|refine jz ?_|refine jF ?_|refine jN (by assumption) rfl ?_))
            exact hK2 _ _ ⟨bad, rfl, ⟨fun h => ⟨h, by simp; omega⟩, fun h => h.1⟩, rfl⟩
  · have e : k = 3 := by omega
    subst e
    (repeat (first|refine jp ?_|refine jz ?_))
    refine M.call_i (fldI_ret i.op w4) ?_; rintro _ w5 ⟨rfl, rfl⟩
    cases hI : hasI i.op with
    | true =>
      (repeat (first|refine jh ?_|refine jl ?_|refine jm ?_|refine jp ?_))
      exact ⟨bad, rfl, ⟨fun h => ⟨hop, hbad.1 h, .inl rfl⟩, fun h => hbad.2 h.2.1⟩, k4⟩
    | false =>
      by_cases h0 : i.imm.toNat = 0
      · (repeat (first|refine jc ?_|refine jf ?_|refine jk ?_|refine jn ?_|refine jp ?_|refine jJ ?_|refine jN (by assumption) rfl ?_))
        exact ⟨bad, rfl, ⟨fun h => ⟨hop, hbad.1 h, .inr h0⟩, fun h => hbad.2 h.2.1⟩, k4⟩
      · (repeat (first|refine jc ?_|refine jf ?_|refine jk ?_|refine jn ?_|refine jo ?_|refine jI ?_|refine jN (by assumption) rfl ?_))
        exact ⟨5, rfl, ⟨fun h => absurd h (by decide), fun h => by rcases h.2.2 with h | h; cases h; exact absurd h h0⟩, k4⟩
end Go.Proofs.YtanjlgafjgoaaaaGreat
namespace Go.Proofs.YtanjlgafjgoaaaaGreat
open Go.Mw
set_option linter.unusedVariables false
set_option linter.unusedSimpArgs false
set_option maxRecDepth 100000
attribute [local irreducible] M.val M.unit M.next M.pick M.new M.nilCheck M.load1 M.loadA M.store M.fieldAddr M.indexSl M.indexArr M.slice M.makeSlice M.buildSlice M.len M.lenS M.cap M.append M.extract M.conv M.not M.neg M.bin M.shift M.eqB M.eqNil M.scat M.call M.callv M.gd M.share M.cond M.loop M.draw pureW readW Ret
theorem okI_iff (i : Ins) (len : Int) : okI i len = true ↔ ((1 ≤ i.op ∧ i.op ≤ 15) ∧ (∀ k, k < 3 → regOk (fldOf i k).1 (fldOf i k).2 = true) ∧ (hasI i.op = true ∨ i.imm.toNat = 0)) ∧ immOk i len = true := by
  have h3 : (∀ k, k < 3 → regOk (fldOf i k).1 (fldOf i k).2 = true) ↔ (regOk (hasA i.op) i.a = true ∧ regOk (hasB i.op) i.b = true ∧ regOk (hasC i.op) i.c = true) := by
    constructor
    · exact fun h => ⟨h 0 (by omega), h 1 (by omega), h 2 (by omega)⟩
    · rintro ⟨h0, h1, h2⟩ k hk
      match k, hk with
      | 0, _ => exact h0
      | 1, _ => exact h1
      | 2, _ => exact h2
  unfold okI
  rw [h3]
  simp only [Bool.and_eq_true, Bool.or_eq_true, decide_eq_true_eq]
  constructor
  · rintro ⟨h1, h2, h3, h4, h5, h6⟩
    exact ⟨⟨h1, ⟨h2, h3, h4⟩, h5⟩, h6⟩
  · rintro ⟨⟨h1, ⟨h2, h3, h4⟩, h5⟩, h6⟩
    exact ⟨h1, h2, h3, h4, h5, h6⟩
theorem M.u64_i {k : Kt} {w : World} {n : Nat} (hn : n < 18446744073709551616) (h : k (.int .u64 (n : Int)) w) : M.conv .u64 (vi (n : Int)) k w := by
  unfold M.conv
  have : IntKind.u64.wrap (n : Int) = n := by
    simp [IntKind.wrap, IntKind.bits, IntKind.signed]
    omega
  simp only [this]; exact h
set_option maxHeartbeats 4000000 in
theorem icheck_ret (i : Ins) {len : Nat} (hlen : len ≤ 1000000) (w : World) : Ret Tryz.prog 21 #[encI i, vi 0, vi len] w (fun r w' => ∃ e, r = vi e ∧ (e = 0 ↔ okI i len = true) ∧ Keep w w' No) := by
  refine ok21 _ _ _ _ _ ?_
  unfold sh21
  refine M.new_i (l := i.cells) (fun w1 b1 k1 s1 => ?_)
  have b1 : Blk w1 w.heap.size [vi i.op, vi i.a, vi i.b, vi i.c, vw i.imm] := b1
  refine M.loadAll_i b1 rfl ?_
  refine M.call_i (ifields_ret i w1) ?_
  rintro _ w2 ⟨e, rfl, he, k2⟩
  have b2 := b1.keep k2 (fun h => h)
  have k := k1.trans k2 (fun _ _ h => h)
  rw [okI_iff]
  by_cases h0 : e = 0
  case neg =>
    (repeat (first|refine jo ?_|refine jI ?_))
    exact ⟨e, rfl, ⟨fun h => absurd h h0, fun h => absurd (he.2 h.1) h0⟩, k⟩
  have hf := he.1 h0
  have hop := hf.1
  have fin : ∀ (r : Int), (r = 0 ↔ immOk i len = true) → ∃ e, vi r = vi e ∧ (e = 0 ↔ ((1 ≤ i.op ∧ i.op ≤ 15) ∧ (∀ k, k < 3 → regOk (fldOf i k).1 (fldOf i k).2 = true) ∧ (hasI i.op = true ∨ i.imm.toNat = 0)) ∧ immOk i len = true) ∧ Keep w w2 No := fun r h => ⟨r, rfl, by rw [h]; exact ⟨fun h => ⟨hf, h⟩, fun h => h.2⟩, k⟩
  (repeat (first|refine jc ?_|refine jp ?_|refine jJ ?_|refine jN (by assumption) rfl ?_))
  refine M.share_j (fun vals w' => immOk i len = true ∧ w2 = w') ?_ ?_
  · rintro vals w' ⟨h, rfl⟩ _
    exact fin 0 ⟨fun _ => h, fun _ => rfl⟩
  intro K hK
  have hK : immOk i len = true → K [] w2 := fun h => hK _ _ ⟨h, rfl⟩
  by_cases o3 : i.op = 3
  · have hi : immOk i len = true ↔ (1 ≤ i.imm.toNat ∧ i.imm.toNat ≤ 14) := by unfold immOk; rw [if_pos o3]; simp
    by_cases h1 : i.imm.toNat < 1
    · (repeat (first|refine jc ?_|refine ji ?_|refine jk ?_|refine jo ?_|refine jy ?_|refine jG ?_|refine jN (by assumption) rfl ?_))
      exact fin 3 ⟨fun h => absurd h (by decide), fun h => by have := hi.1 h; omega⟩
    · by_cases h2 : 14 < i.imm.toNat
      · (repeat (first|refine jc ?_|refine jg ?_|refine jl ?_|refine jo ?_|refine jz ?_|refine jC ?_|refine jG ?_|refine jN (by assumption) rfl ?_))
        exact fin 3 ⟨fun h => absurd h (by decide), fun h => by have := hi.1 h; omega⟩
      · (repeat (first|refine jc ?_|refine jg ?_|refine jl ?_|refine jo ?_|refine jp ?_|refine jz ?_|refine jD ?_|refine jG ?_|refine jN (by assumption) rfl ?_))
        exact hK (hi.2 (by omega))
  by_cases o4 : i.op = 4
  · have hi : immOk i len = true ↔ (i.imm.toNat = 15 ∨ i.imm.toNat = 16) := by unfold immOk; rw [if_neg o3, if_pos o4]; simp
    by_cases h1 : i.imm.toNat = 15
    · (repeat (first|refine jc ?_|refine jh ?_|refine jl ?_|refine jo ?_|refine jp ?_|refine jG ?_|refine jH ?_|refine jJ ?_|refine jN (by assumption) rfl ?_))
      exact hK (hi.2 (by omega))
    · by_cases h2 : i.imm.toNat = 16
      · (repeat (first|refine jc ?_|refine jf ?_|refine jk ?_|refine jo ?_|refine jp ?_|refine jG ?_|refine jH ?_|refine jI ?_|refine jJ ?_|refine jN (by assumption) rfl ?_))
        exact hK (hi.2 (by omega))
      · (repeat (first|refine jc ?_|refine jf ?_|refine jk ?_|refine jo ?_|refine jp ?_|refine jG ?_|refine jH ?_|refine jI ?_|refine jN (by assumption) rfl ?_))
        exact fin 3 ⟨fun h => absurd h (by decide), fun h => by have := hi.1 h; omega⟩
  (repeat (first|refine jp ?_|refine jH ?_))
  by_cases o5 : i.op = 5 ∨ i.op = 6
  · have hi : immOk i len = true ↔ (0 ≤ (len : Int) ∧ (i.imm.toNat : Int) < len) := by unfold immOk; rw [if_neg o3, if_neg o4, if_pos o5]; simp
    refine M.share_j (fun vals w' => vals = [.bool true] ∧ w2 = w') ?_ ?_
    · rintro vals w' ⟨rfl, rfl⟩ _
      simp only [List.getD_cons_zero, List.getD_cons_succ]
      (repeat (first|refine jc ?_|refine jg ?_|refine jo ?_|refine jz ?_|refine jN (by assumption) rfl ?_))
      refine M.u64_i (by omega) ?_
      by_cases h1 : (len : Int) ≤ i.imm.toNat
      · (repeat (first|refine jg ?_|refine jl ?_|refine jo ?_|refine jE ?_))
        exact fin 15 ⟨fun h => absurd h (by decide), fun h => by have := hi.1 h; omega⟩
      · (repeat (first|refine jg ?_|refine jl ?_|refine jp ?_|refine jF ?_))
        exact hK (hi.2 (by omega))
    · intro K2 hK2
      have hK2 := hK2 _ _ ⟨rfl, rfl⟩
      rcases o5 with o | o
      all_goals
        (repeat (first|refine jo ?_|refine jp ?_|refine jG ?_|refine jH ?_))
        exact hK2
  refine M.share_j (fun vals w' => vals = [.bool false] ∧ w2 = w') ?_ ?_
  case refine_2 =>
    intro K2 hK2
    have hK2 := hK2 _ _ ⟨rfl, rfl⟩
    (repeat (first|refine jp ?_|refine jH ?_))
    exact hK2
  rintro vals w' ⟨rfl, rfl⟩ _
  simp only [List.getD_cons_zero, List.getD_cons_succ]
  (repeat (refine jp ?_))
  by_cases o9 : i.op = 9
  · have hi : immOk i len = true ↔ i.imm.toNat < 4 := by unfold immOk; rw [if_neg o3, if_neg o4, if_neg o5, if_pos o9]; simp
    by_cases h1 : 4 ≤ i.imm.toNat
    · (repeat (first|refine jc ?_|refine jo ?_|refine jp ?_|refine jE ?_|refine jG ?_|refine jJ ?_|refine jN (by assumption) rfl ?_))
      exact fin 4 ⟨fun h => absurd h (by decide), fun h => by have := hi.1 h; omega⟩
    · (repeat (first|refine jc ?_|refine jo ?_|refine jp ?_|refine jF ?_|refine jG ?_|refine jJ ?_|refine jN (by assumption) rfl ?_))
      exact hK (hi.2 (by omega))
  by_cases o15 : i.op = 15
  · have hi : immOk i len = true ↔ (1 ≤ i.imm.toNat ∧ i.imm.toNat ≤ 255) := by unfold immOk; rw [if_neg o3, if_neg o4, if_neg o5, if_neg o9, if_pos o15]; simp
    by_cases h1 : i.imm.toNat = 0
    · (repeat (first|refine jc ?_|refine ji ?_|refine jk ?_|refine jo ?_|refine jp ?_|refine jG ?_|refine jH ?_|refine jN (by assumption) rfl ?_))
      exact fin 4 ⟨fun h => absurd h (by decide), fun h => by have := hi.1 h; omega⟩
    · by_cases h2 : 255 < i.imm.toNat
      · (repeat (first|refine jc ?_|refine jg ?_|refine jl ?_|refine jo ?_|refine jp ?_|refine jC ?_|refine jG ?_|refine jH ?_|refine jN (by assumption) rfl ?_))
        exact fin 4 ⟨fun h => absurd h (by decide), fun h => by have := hi.1 h; omega⟩
      · (repeat (first|refine jc ?_|refine jg ?_|refine jl ?_|refine jo ?_|refine jp ?_|refine jD ?_|refine jG ?_|refine jH ?_|refine jN (by assumption) rfl ?_))
        exact hK (hi.2 (by omega))
  · have hi : immOk i len = true := by unfold immOk; rw [if_neg o3, if_neg o4, if_neg o5, if_neg o9, if_neg o15]
    (repeat (first|refine jp ?_|refine jH ?_))
    exact hK hi
end Go.Proofs.YtanjlgafjgoaaaaGreat
namespace Go.Proofs.YtanjlgafjgoaaaaGreat
open Go.Mw Go.Lib
set_option linter.unusedVariables false
set_option linter.unusedSimpArgs false
set_option maxRecDepth 100000
attribute [local irreducible] M.val M.unit M.next M.pick M.new M.nilCheck M.load1 M.loadA M.store M.fieldAddr M.indexSl M.indexArr M.slice M.makeSlice M.buildSlice M.len M.lenS M.cap M.append M.extract M.conv M.not M.neg M.bin M.shift M.eqB M.eqNil M.scat M.call M.callv M.gd M.share M.cond M.loop M.draw pureW readW Ret
def sh77 (x0 x1 : Value) (R : Kt) (w : World) : Prop :=
  M.share (fun K1 w =>
  M.bin .lss x1 (Value.int IntKind.i64 0) (fun t6 w =>
  M.cond t6
  (M.val Tryz.prog (Instr.makeInterface 9 (Value.string { data := #[99, 97, 110, 110, 111, 116, 32, 98, 101, 32, 110, 101, 103, 97, 116, 105, 118, 101] })) (fun t7 w =>
  M.panic (fun _ w =>
  K1 [] w) w) w)
  (K1 [] w)) w) (fun s1 w => ∀ _ : List Value,
  M.share (fun K2 w =>
  M.cap x0 (fun t10 w =>
  M.len x0 (fun t12 w =>
  M.bin .sub t10 t12 (fun t13 w =>
  M.bin .sub x1 t13 (fun t14 w =>
  M.bin .gtr t14 (Value.int IntKind.i64 0) (fun t16 w =>
  M.cond t16
  (M.cap x0 (fun t19 w =>
  M.slice 1 x0 none (some t19) none (fun t20 w =>
  M.next Tryz.prog (builtin .append #[30, 3] 30 #[false, false] #[t20, t14]) (fun t22 w =>
  M.len x0 (fun t24 w =>
  M.slice 1 t22 none (some t24) none (fun t25 w =>
  K2 [t25] w) w) w) w) w) w)
  (K2 [x0] w)) w) w) w) w) w) (fun s2 w => ∀ _ : List Value,
  R (s2.getD 0 undef) w) w) w
theorem ok77 (x0 x1 : Value) (R : Kt) (w : World) (h : sh77 x0 x1 R w) : Ret Tryz.prog 77 #[x0, x1] w R :=
  ret_mk <| calls_of_comp mixed (c := Tryz.f77.body.getD .skip) (args := [x0, x1]) (rs := [(ResultVar.tmp 4)]) (Ann.seq Ann.text (Ann.join [] [5, 6, 7] (Ann.seq Ann.text (Ann.cond Ann.text Ann.leaf)) (Ann.join [0] [1, 8, 9, 10, 11, 12, 13, 14, 15, 16, 17, 18, 19, 20, 21, 22, 23, 24, 25] (Ann.seq Ann.text (Ann.seq Ann.text (Ann.cond Ann.text Ann.leaf))) (Ann.seq Ann.text Ann.leaf))))
    Tryz.func77 (by kernel_rfl) (by kernel_rfl)
    (Eq.mp (by kernel_rfl) h)
def sh38 (x0 : Value) (R : Kt) (w : World) : Prop :=
  M.len x0 (fun t10 w =>
  M.loop [(Value.int IntKind.i64 0), (Value.int IntKind.i64 0)] (fun s1 K1 w => ∀ _ : List Value,
  M.bin .lss (s1.getD 1 undef) t10 (fun t12 w =>
  M.cond t12
  (M.share (fun K2 w =>
  M.indexSl 1 x0 (s1.getD 1 undef) (fun t13 w =>
  M.load1 t13 (fun t14 w =>
  M.len t14 (fun t17 w =>
  M.bin .add (s1.getD 0 undef) t17 (fun t18 w =>
  M.bin .lss t18 (Value.int IntKind.i64 0) (fun t20 w =>
  M.cond t20
  (M.val Tryz.prog (Instr.makeInterface 9 (Value.string { data := #[108, 101, 110, 32, 111, 117, 116, 32, 111, 102, 32, 114, 97, 110, 103, 101] })) (fun t21 w =>
  M.panic (fun _ w =>
  K2 [t18] w) w) w)
  (K2 [t18] w)) w) w) w) w) w) (fun s2 w => ∀ _ : List Value,
  M.bin .add (s1.getD 1 undef) (Value.int IntKind.i64 1) (fun t22 w =>
  K1 [(s2.getD 0 undef), t22] w) w) w)
  (M.call Tryz.prog 77 #[(Value.slice none 0 0), (s1.getD 0 undef)] (fun t24 w =>
  M.len x0 (fun t26 w =>
  M.loop [t24, (Value.int IntKind.i64 0)] (fun s3 K3 w => ∀ _ : List Value,
  M.bin .lss (s3.getD 1 undef) t26 (fun t28 w =>
  M.cond t28
  (M.indexSl 1 x0 (s3.getD 1 undef) (fun t29 w =>
  M.load1 t29 (fun t30 w =>
  M.append 3 1 8 #[.int .i64 0] (s3.getD 0 undef) t30 (fun t33 w =>
  M.bin .add (s3.getD 1 undef) (Value.int IntKind.i64 1) (fun t34 w =>
  K3 [t33, t34] w) w) w) w) w)
  (R (s3.getD 0 undef) w)) w) w) w) w)) w) w) w
theorem ok38 (x0 : Value) (R : Kt) (w : World) (h : sh38 x0 R w) : Ret Tryz.prog 38 #[x0] w R :=
  ret_mk <| calls_of_comp mixed (c := Tryz.f38.body.getD .skip) (args := [x0]) (rs := [(ResultVar.tmp 2)]) (Ann.seq Ann.text (Ann.seq Ann.text (Ann.seq (Ann.seq Ann.text (Ann.block (Ann.loop [3, 11] [5, 12, 13, 14, 15, 16, 17, 18, 19, 20, 21, 22] (Ann.seq Ann.text (Ann.seq (Ann.cond Ann.leaf Ann.leaf) (Ann.seq (Ann.jblock [3] [5, 13, 14, 15, 16, 17, 18, 19, 20, 21] (Ann.seq Ann.text (Ann.seq Ann.text (Ann.seq Ann.text (Ann.cond Ann.text Ann.leaf))))) Ann.text)))))) (Ann.seq Ann.text (Ann.seq (Ann.seq Ann.text (Ann.block (Ann.loop [6, 27] [8, 28, 29, 30, 31, 32, 33, 34] (Ann.seq Ann.text (Ann.seq (Ann.cond Ann.leaf Ann.leaf) (Ann.seq (Ann.block (Ann.seq Ann.text Ann.text)) Ann.text)))))) (Ann.seq Ann.text Ann.leaf))))))
    Tryz.func38 (by kernel_rfl) (by kernel_rfl)
    (Eq.mp (by kernel_rfl) h)
theorem grow_ret {w : World} (n : Nat) (hn : n ≤ 1000000) :
    Ret Tryz.prog 77 #[.slice none 0 0, vi n] w (fun r w' => GI w' (w.heap.size ≤ ·) r [] ∧ Keep w w' No) := by
  refine ok77 _ _ _ _ ?_
  unfold sh77
  refine M.share_j (fun vals w' => vals = [] ∧ w = w') ?_ ?_
  case refine_2 =>
    intro K hK
    (repeat (first|refine jp ?_|refine jz ?_))
    exact hK _ _ ⟨rfl, rfl⟩
  rintro vals w' ⟨rfl, rfl⟩ _
  refine M.share_j (fun vals w' => ∃ v, vals = [v] ∧ GI w' (w.heap.size ≤ ·) v [] ∧ Keep w w' No) ?_ ?_
  case refine_1 =>
    rintro vals w' ⟨v, rfl, h1, h2⟩ _
    exact ⟨h1, h2⟩
  intro K hK
  (repeat (first|refine ja ?_|refine je ?_|refine jL ?_))
  by_cases h0 : n = 0
  · subst h0
    (repeat (first|refine jp ?_|refine jD ?_))
    exact hK _ _ ⟨_, rfl, GI.nil _ _, Keep.refl _ _⟩
  · (repeat (first|refine je ?_|refine jo ?_|refine jC ?_))
    refine M.slice_i 0 0 0 (by rfl) ?_
    have e0 : (((n : Nat) : Int) - (((0 : Nat) : Int) - ((0 : Nat) : Int))) = (n : Int) := by omega
    have hinf : ∃ i z, Tryz.prog.info? 3 = some i ∧ i.zero = some z ∧ i.size = 1 ∧ i.bytes = 8 ∧ z.cells = #[vi 0] := by
      have h1 : (Tryz.prog.info? 3).isSome = true := by kernel_rfl
      obtain ⟨i, hi⟩ := Option.isSome_iff_exists.1 h1
      have h2 : ((Tryz.prog.info? 3).bind (·.zero)).map (·.cells) = some #[vi 0] := by kernel_rfl
      have h3 : (Tryz.prog.info? 3).map (fun i => (i.size, i.bytes)) = some (1, 8) := by kernel_rfl
      rw [hi] at h2 h3
      simp only [Option.bind_some, Option.map_some, Option.some.injEq, Prod.mk.injEq] at h2 h3
      obtain ⟨z, hz, hc⟩ := Option.map_eq_some_iff.1 h2
      exact ⟨i, z, hi, hz, h3.1, h3.2, hc⟩
    obtain ⟨i, z, hi, hz, hs, hb, hc⟩ := hinf
    have hcap : Builtin.nextslicecap (0 + n) 0 = n := by unfold Builtin.nextslicecap; rw [if_pos (by omega)]; omega
    have run := run_append_grow_zeros (P := Tryz.prog) w 30 3 30 3 i z .i64 .i64 (by kernel_rfl) (by kernel_rfl) hi hz none 0 0 [] (by simp [Builtin.firstCells]) n (by omega) (by omega) (by omega) (by omega) (by rw [hb]; omega) (by rw [hcap, hb]; omega)
    refine M.next_i (v := .slice (some ⟨w.heap.size, 0, none⟩) (0 + n) (grownCap w (0 + n) 0 3)) (w' := _) run ?_
    have hge := grownCap_ge w (0 + n) 0 3
    generalize grownCap w (0 + n) 0 3 = c at hge ⊢
    rw [hc]
    have hcells : ([].toArray ++ Builtin.zeroCells #[vi 0] n ++ Builtin.zeroCells #[vi 0] (c - (0 + n)) : Array Value) = ⟨List.replicate c (vi 0)⟩ := by
      apply Array.ext'
      have hz0 : ∀ m : Nat, (Builtin.zeroCells #[vi 0] m).toList = List.replicate m (vi 0) := fun m => by
        apply List.ext_getElem?
        intro j
        by_cases hj : j < m
        · simp [Builtin.zeroCells, hj, Nat.mod_one]
        · simp [Builtin.zeroCells, hj]
      simp only [Array.toList_append, hz0, List.nil_append]
      rw [List.replicate_append_replicate]
      congr 1
      omega
    have b : Blk (w.drew.alloc (.cells ([].toArray ++ Builtin.zeroCells #[vi 0] n ++ Builtin.zeroCells #[vi 0] (c - (0 + n))) 3)) w.heap.size (List.replicate c (vi 0)) := by
      rw [hcells]
      exact ⟨3, alloc_new w.drew _⟩
    have k : Keep w (w.drew.alloc (.cells ([].toArray ++ Builtin.zeroCells #[vi 0] n ++ Builtin.zeroCells #[vi 0] (c - (0 + n))) 3)) No := (Keep.drew w No).trans (Keep.alloc w.drew _ _) (fun _ _ h => h)
    generalize (w.drew.alloc (.cells ([].toArray ++ Builtin.zeroCells #[vi 0] n ++ Builtin.zeroCells #[vi 0] (c - (0 + n))) 3)) = w1 at b k ⊢
    (repeat (refine ja ?_))
    refine M.slice_i 0 0 c (sl3_h (h := 0) (Nat.zero_le c)) ?_
    refine hK _ _ ⟨_, rfl, ?_, k⟩
    refine ⟨rfl, .inr ⟨w.heap.size, c, List.replicate c (vi 0), ?_, Nat.le_refl _, by simpa using b, by simp⟩⟩
    rw [if_neg (by omega)]
    simp [add_mk]
theorem scon_ret {w : World} {D : Nat → Prop} {b : Nat} {vs : List Value} {ls : List (List Int)} (hb : Blk w b vs) (hl : vs.length = ls.length) (hv : ∀ (k : Nat) v l, vs[k]? = some v → ls[k]? = some l → LV vi w D v l) (hf : ls.flatten.length ≤ 1000000) (hn : ls.length ≤ 1000000) (m : Nat) (hm : m = ls.length) :
    Ret Tryz.prog 38 #[.slice (some ⟨b, 0, none⟩) m m] w (fun r w' => GI w' (w.heap.size ≤ ·) r ls.flatten ∧ Keep w w' No) := by
  subst hm
  have hv : ∀ (k : Nat) v l, vs[k]? = some v → ls[k]? = some l → LV vi w (· < w.heap.size) v l := fun k v l h1 h2 => (hv k v l h1 h2).mono (fun b hb _ => hb)
  have hblt := hb.lt
  have hlen : ∀ k, k ≤ ls.length → (ls.take k).flatten.length ≤ ls.flatten.length := fun k hk => by
    have : ls.flatten = (ls.take k).flatten ++ (ls.drop k).flatten := by rw [← List.flatten_append, List.take_append_drop]
    rw [this, List.length_append]; omega
  have hcell : ∀ w', Keep w w' No → ∀ k v, vs[k]? = some v → w'.cell? ⟨b, 0 + k * 1, none⟩ = some v := fun w' k' k v h => by
    have := (hb.keep k' (fun h => h)).cell (o := k) h
    rwa [Nat.zero_add, Nat.mul_one]
  refine ok38 _ _ _ ?_
  unfold sh38
  (repeat (refine ja ?_))
  refine M.loop_i (σ := Nat) (fun k vals w' => vals = [vi (((ls.take k).flatten.length : Nat) : Int), vi k] ∧ k ≤ ls.length ∧ w' = w) (fun k => ls.length - k) 0 ⟨by simp, by omega, rfl⟩ ?_
  rintro k vals w1 K ⟨rfl, hk, e1⟩ hK _
  subst e1
  simp only [List.getD_cons_zero, List.getD_cons_succ]
  by_cases hlt : k < ls.length
  · obtain ⟨l, hlk⟩ : ∃ l, ls[k]? = some l := ⟨_, List.getElem?_eq_getElem hlt⟩
    obtain ⟨v, hvk⟩ : ∃ v, vs[k]? = some v := ⟨_, List.getElem?_eq_getElem (by omega)⟩
    have et : (ls.take (k + 1)).flatten = (ls.take k).flatten ++ l := by rw [List.take_add_one, hlk, List.flatten_append]; simp
    have h1 := hlen (k + 1) (by omega)
    rw [et, List.length_append] at h1
    obtain ⟨A, c, rfl, hr, _⟩ := hv k v l hvk hlk
    (repeat (first|refine jo ?_|refine jy ?_))
    refine M.share_j (fun vals w' => vals = [vi (((ls.take (k + 1)).flatten.length : Nat) : Int)] ∧ w' = w1) ?_ ?_
    · rintro vals w' ⟨rfl, e⟩ _
      subst e
      simp only [List.getD_cons_zero, List.getD_cons_succ]
      (repeat (refine jK ?_))
      exact hK (k + 1) _ _ (by omega) ⟨rfl, by omega, rfl⟩
    · intro K2 hK2
      refine M.idx_i (by omega) (by omega) ?_
      refine M.load_i (hcell w1 (Keep.refl _ _) _ _ (by rw [Int.toNat_natCast]; exact hvk)) ?_
      (repeat (first|refine ja ?_|refine jp ?_|refine jz ?_|refine jK ?_))
      refine hK2 _ _ ⟨?_, rfl⟩
      rw [et, List.length_append]
      congr 2
  · have e : k = ls.length := by omega
    subst e
    rw [List.take_length]
    (repeat (first|refine jp ?_|refine jz ?_))
    refine M.call_i (grow_ret ls.flatten.length hf) ?_; rintro v0 w2 ⟨g2, k2⟩
    (repeat (refine ja ?_))
    refine M.loop_i (σ := Nat) (fun k vals w' => ∃ v, vals = [v, vi k] ∧ k ≤ ls.length ∧ GI w' (w1.heap.size ≤ ·) v (ls.take k).flatten ∧ Keep w1 w' No) (fun k => ls.length - k) 0 ⟨v0, rfl, by omega, by simpa using g2, k2⟩ ?_
    rintro k vals w3 K3 ⟨v, rfl, hk, g3, k3⟩ hK3 _
    simp only [List.getD_cons_zero, List.getD_cons_succ]
    by_cases hlt : k < ls.length
    · obtain ⟨l, hlk⟩ : ∃ l, ls[k]? = some l := ⟨_, List.getElem?_eq_getElem hlt⟩
      obtain ⟨v2, hvk⟩ : ∃ v, vs[k]? = some v := ⟨_, List.getElem?_eq_getElem (by omega)⟩
      have et : (ls.take (k + 1)).flatten = (ls.take k).flatten ++ l := by rw [List.take_add_one, hlk, List.flatten_append]; simp
      have h1 := hlen (k + 1) (by omega)
      rw [et, List.length_append] at h1
      obtain ⟨A, c, rfl, hr, _⟩ := hv k v2 l hvk hlk
      have q3 := k3.size
      (repeat (first|refine jo ?_|refine jy ?_))
      refine M.idx_i (by omega) (by omega) ?_
      refine M.load_i (hcell w3 k3 _ _ (by rw [Int.toNat_natCast]; exact hvk)) ?_
      refine M.appendI_i rfl g3 (hr.keep k3 (fun _ _ _ h => h)) rfl (by omega) (fun v4 w4 g4 k4 => ?_)
      rw [← et] at g4
      (repeat (refine jK ?_))
      exact hK3 (k + 1) _ _ (by omega) ⟨v4, rfl, by omega, g4.mono (fun b hb h => by rcases h with h | h <;> omega), k3.trans k4 (fun b hb h => by omega)⟩
    · have e : k = ls.length := by omega
      subst e
      rw [List.take_length] at g3
      (repeat (first|refine jp ?_|refine jz ?_))
      exact ⟨g3, k3⟩
end Go.Proofs.YtanjlgafjgoaaaaGreat
namespace Go.Proofs.YtanjlgafjgoaaaaGreat
open Go.Mw
set_option linter.unusedVariables false
set_option linter.unusedSimpArgs false
set_option maxRecDepth 100000
attribute [local irreducible] M.val M.unit M.next M.pick M.new M.nilCheck M.load1 M.loadA M.store M.fieldAddr M.indexSl M.indexArr M.slice M.makeSlice M.buildSlice M.len M.lenS M.cap M.append M.extract M.conv M.not M.neg M.bin M.shift M.eqB M.eqNil M.scat M.call M.callv M.gd M.share M.cond M.loop M.draw pureW readW Ret
variable {Z : Nat → Prop}
abbrev zSy : List Value := [vi 0, vi 0, vi 0, vi 0, vi 0, vi 0, vi 0, vi 0, .slice none 0 0, vi 0, vi 0, vi 0, vi 0, vi 0, vi 0, .slice none 0 0, .slice none 0 0, vi 0, .slice none 0 0]
theorem sy_vals_one {w : World} {D : Nat → Prop} {s : Sy} {c a b d : Value} (hc : LV vi w D c s.cells) (hd : SDvO w D a b s.dev) (hk : LV vi w D d s.conds) : ∀ y ∈ s.vals c a b d, y.oneCell' = true := by
  intro y hy
  unfold Sy.vals at hy
  rcases List.mem_append.1 hy with h | h
  · exact vi_one _ y h
  · simp only [List.mem_cons, List.not_mem_nil, or_false] at h
    rcases h with h | h | h | h | h | h | h | h | h | h | h <;> subst h
    · exact LV.one hc
    all_goals first | rfl | exact LV.one hd.1 | exact LN.one hd.2 | exact LV.one hk
def Fr (Z F : Nat → Prop) (pb : Nat) (ov : Value) : Nat → Prop := fun x => ¬ F x ∧ x ≠ pb ∧ ¬ blkOf ov x ∧ Z x
def Ch (F : Nat → Prop) (pb : Nat) (ov : Value) : Nat → Prop := fun x => F x ∨ x = pb ∨ blkOf ov x
def OutO (w : World) (D : Nat → Prop) (ov : Value) (outs : List Sy) : Prop :=
  ∃ cs : List (List Value), GC w (blkOf ov) 19 ov outs.length cs.flatten ∧ cs.length = outs.length ∧ ∀ (k : Nat) v s, cs[k]? = some v → outs[k]? = some s → SyO w D (.agg ⟨v⟩) s
abbrev stpL (p : Nat) (sv : List Value) (i : Ins) (inputs mw : Int) (ov : Value) (e : Int) : List Value := ptr p :: (sv ++ (i.cells ++ [vi inputs, vi mw, ov, vi e]))
structure Stp (Z : Nat → Prop) (w : World) (F : Nat → Prop) (p pb : Nat) (N : List Nd) (most : Int) (s : Sy) (sv : List Value) (i : Ins) (inputs mw : Int) (ov : Value) (outs : List Sy) (e : Int) : Prop where
  dag : DagO w F p N most
  nF : ¬ F pb
  blk : Blk w pb (stpL p sv i inputs mw ov e)
  oo : OutO w (Fr Z F pb ov) ov outs
  on : ∀ x, blkOf ov x → ¬ F x ∧ x ≠ pb
  sy : SyO w (Fr Z F pb ov) (.agg ⟨sv⟩) s
  zn : ∀ x, w.heap.size ≤ x → Z x
structure Mv (w : World) (F : Nat → Prop) (pb : Nat) (ov : Value) (w' : World) (F' : Nat → Prop) (ov' : Value) : Prop where
  keep : Keep w w' (Ch F pb ov)
  fF : ∀ b, b < w.heap.size → F' b → F b
  fo : ∀ b, b < w.heap.size → blkOf ov' b → blkOf ov b
theorem Mv.trans {w w1 w2 : World} {F F1 F2 : Nat → Prop} {pb : Nat} {ov o1 o2 : Value} (h : Mv w F pb ov w1 F1 o1) (k : Mv w1 F1 pb o1 w2 F2 o2) : Mv w F pb ov w2 F2 o2 := by
  have q := h.keep.size
  refine ⟨h.keep.trans k.keep (fun b hb hc => ?_), fun b hb hc => h.fF b hb (k.fF b (by omega) hc), fun b hb hc => h.fo b hb (k.fo b (by omega) hc)⟩
  rcases hc with hc | hc | hc
  · exact .inl (h.fF b hb hc)
  · exact .inr (.inl hc)
  · exact .inr (.inr (h.fo b hb hc))
theorem Mv.none {w w1 : World} {F : Nat → Prop} {pb : Nat} {ov : Value} (k : Keep w w1 No) : Mv w F pb ov w1 F ov := ⟨k.mono (fun _ _ h => h.elim), fun _ _ h => h, fun _ _ h => h⟩
theorem Mv.pre {w w1 w2 : World} {F F2 : Nat → Prop} {pb : Nat} {ov o2 : Value} (k : Keep w w1 No) (h : Mv w1 F pb ov w2 F2 o2) : Mv w F pb ov w2 F2 o2 := (Mv.none k).trans h
theorem Mv.fr {w w' : World} {F F' : Nat → Prop} {pb : Nat} {ov ov' : Value} (h : Mv w F pb ov w' F' ov') {b : Nat} (hb : b < w.heap.size) (hf : Fr Z F pb ov b) : Fr Z F' pb ov' b :=
  ⟨fun x => hf.1 (h.fF b hb x), hf.2.1, fun x => hf.2.2.1 (h.fo b hb x), hf.2.2.2⟩
theorem Mv.frc {F : Nat → Prop} {pb : Nat} {ov : Value} {b : Nat} (hf : Fr Z F pb ov b) : ¬ Ch F pb ov b := fun h => by
  rcases h with h | h | h
  · exact hf.1 h
  · exact hf.2.1 h
  · exact hf.2.2.1 h
theorem SyO.mv {w w' : World} {F F' : Nat → Prop} {pb : Nat} {ov ov' v : Value} {s : Sy} (m : Mv w F pb ov w' F' ov') (h : SyO w (Fr Z F pb ov) v s) : SyO w' (Fr Z F' pb ov') v s :=
  (h.mono (D' := fun b => b < w.heap.size ∧ Fr Z F pb ov b) (fun b hb hf => ⟨hb, hf⟩)).keep m.keep (fun b hb hf => Mv.frc hf.2) |>.mono (fun b _ hf => m.fr hf.1 hf.2)
theorem LV.mv {α : Type} {f : α → Value} {w w' : World} {F F' : Nat → Prop} {pb : Nat} {ov ov' v : Value} {xs : List α} (m : Mv w F pb ov w' F' ov') (h : LV f w (Fr Z F pb ov) v xs) : LV f w' (Fr Z F' pb ov') v xs :=
  (h.mono (D' := fun b => b < w.heap.size ∧ Fr Z F pb ov b) (fun b hb hf => ⟨hb, hf⟩)).keep m.keep (fun b hb hf => Mv.frc hf.2) |>.mono (fun b _ hf => m.fr hf.1 hf.2)
theorem SDvO.mv {w w' : World} {F F' : Nat → Prop} {pb : Nat} {ov ov' a b : Value} {d : SDv} (m : Mv w F pb ov w' F' ov') (h : SDvO w (Fr Z F pb ov) a b d) : SDvO w' (Fr Z F' pb ov') a b d :=
  (h.mono (D' := fun b => b < w.heap.size ∧ Fr Z F pb ov b) (fun b hb hf => ⟨hb, hf⟩)).keep m.keep (fun b hb hf => Mv.frc hf.2) |>.mono (fun b _ hf => m.fr hf.1 hf.2)
theorem Blk.mv {w w' : World} {F F' : Nat → Prop} {pb q : Nat} {ov ov' : Value} {l : List Value} (m : Mv w F pb ov w' F' ov') (h : Blk w q l) (hq : Fr Z F pb ov q) : Blk w' q l ∧ Fr Z F' pb ov' q :=
  ⟨h.keep m.keep (Mv.frc hq), m.fr h.lt hq⟩
theorem OutO.mv {w w' : World} {F F' : Nat → Prop} {pb : Nat} {ov : Value} {outs : List Sy} (m : Mv w F pb ov w' F' ov) (hk : ∀ x, blkOf ov x → x < w.heap.size → w'.heap[x]? = w.heap[x]?) (h : OutO w (Fr Z F pb ov) ov outs) : OutO w' (Fr Z F' pb ov) ov outs := by
  obtain ⟨cs, h1, h2, h3⟩ := h
  refine ⟨cs, ?_, h2, fun k v s g1 g2 => (h3 k v s g1 g2).mv m⟩
  obtain ⟨h0, h | ⟨b, c, rest, e1, e2, e3, e4⟩⟩ := h1
  · exact ⟨h0, .inl h⟩
  · refine ⟨h0, .inr ⟨b, c, rest, e1, e2, ?_, e4⟩⟩
    obtain ⟨T, hT⟩ := e3
    exact ⟨T, by rw [hk b e2 (lt_of_heap hT)]; exact hT⟩
section
variable {w : World} {F : Nat → Prop} {p pb : Nat} {N : List Nd} {most : Int} {s : Sy} {sv : List Value} {i : Ins} {inputs mw : Int} {ov : Value} {outs : List Sy} {e : Int}
theorem Stp.keepN {w' : World} (h : Stp Z w F p pb N most s sv i inputs mw ov outs e) (k : Keep w w' No) : Stp Z w' F p pb N most s sv i inputs mw ov outs e := by
  have m : Mv w F pb ov w' F ov := Mv.none k
  exact ⟨h.dag.keepN k, h.nF, h.blk.keep k (fun h => h), h.oo.mv m (fun x _ hx => k.blk x hx (fun h => h)), h.on, h.sy.mv m, fun x hx => h.zn x (Nat.le_trans k.size hx)⟩
theorem Stp.ask {w' : World} {F' : Nat → Prop} {N' : List Nd} (h : Stp Z w F p pb N most s sv i inputs mw ov outs e) (hd : DagO w' F' p N' most) (hF : ∀ b, b < w.heap.size → F' b → F b) (k : Keep w w' F) :
    Stp Z w' F' p pb N' most s sv i inputs mw ov outs e ∧ Mv w F pb ov w' F' ov := by
  have m : Mv w F pb ov w' F' ov := ⟨k.mono (fun _ _ h => .inl h), hF, fun _ _ h => h⟩
  have hblt : ∀ x, blkOf ov x → x < w.heap.size := fun x hx => by
    obtain ⟨cs, h1, _⟩ := h.oo
    obtain ⟨_, l, hl⟩ := GC.blkOf h1 hx
    exact hl.lt
  refine ⟨⟨hd, fun hx => h.nF (hF pb h.blk.lt hx), h.blk.keep k h.nF, h.oo.mv m (fun x hx hlt => k.blk x hlt (h.on x hx).1), fun x hx => ⟨fun hf => (h.on x hx).1 (hF x (hblt x hx) hf), (h.on x hx).2⟩, h.sy.mv m, fun x hx => h.zn x (Nat.le_trans k.size hx)⟩, m⟩
theorem Stp.put {w' : World} {e' : Int} (h : Stp Z w F p pb N most s sv i inputs mw ov outs e) (hb : Blk w' pb (stpL p sv i inputs mw ov e')) (k : Keep w w' (· = pb)) :
    Stp Z w' F p pb N most s sv i inputs mw ov outs e' ∧ Mv w F pb ov w' F ov := by
  have m : Mv w F pb ov w' F ov := ⟨k.mono (fun _ _ h => .inr (.inl h)), fun _ _ h => h, fun _ _ h => h⟩
  exact ⟨⟨h.dag.keep k (fun b hb hx => h.nF (by have hx : b = pb := hx; rw [← hx]; exact hb)), h.nF, hb, h.oo.mv m (fun x hx hlt => k.blk x hlt (h.on x hx).2), h.on, h.sy.mv m, fun x hx => h.zn x (Nat.le_trans k.size hx)⟩, m⟩
theorem SyO.len19 {D : Nat → Prop} (h : SyO w D (.agg ⟨sv⟩) s) : sv.length = 19 := by
  obtain ⟨h8, c, a, b, d, h2, _⟩ := h
  simp only [Value.agg.injEq, Array.mk.injEq] at h2
  rw [h2]; simp [Sy.vals, h8]
theorem stpL_len (h : sv.length = 19) : (stpL p sv i inputs mw ov e).length = 29 := by simp [stpL, Ins.cells, h]
theorem stpL_p : (stpL p sv i inputs mw ov e)[0]? = some (ptr p) := by simp [stpL]
theorem stpL_sv (h : sv.length = 19) {k : Nat} (hk : k < 19) : (stpL p sv i inputs mw ov e)[k + 1]? = sv[k]? := by
  rw [List.getElem?_cons_succ, List.getElem?_append_left (by omega)]
theorem stpL_tail (h : sv.length = 19) {k : Nat} : (stpL p sv i inputs mw ov e)[k + 20]? = (i.cells ++ [vi inputs, vi mw, ov, vi e])[k]? := by
  rw [show k + 20 = (k + 19) + 1 by omega, List.getElem?_cons_succ, List.getElem?_append_right (by omega), h, show k + 19 - 19 = k by omega]
theorem stpL_all (h : sv.length = 19) : ((stpL p sv i inputs mw ov e).drop 1).take 19 = sv := by
  rw [List.drop_succ_cons, List.drop_zero, List.take_append_of_le_length (by omega), List.take_of_length_le (by omega)]
theorem stpL_setE (h : sv.length = 19) (e' : Int) : (stpL p sv i inputs mw ov e).set 28 (vi e') = stpL p sv i inputs mw ov e' := by
  rw [show (28 : Nat) = 27 + 1 from rfl, List.set_cons_succ, List.set_append_right _ _ (by omega), h]; rfl
theorem stpL_setO (h : sv.length = 19) (ov' : Value) : (stpL p sv i inputs mw ov e).set 27 ov' = stpL p sv i inputs mw ov' e := by
  rw [show (27 : Nat) = 26 + 1 from rfl, List.set_cons_succ, List.set_append_right _ _ (by omega), h]; rfl
variable (h : Stp Z w F p pb N most s sv i inputs mw ov outs e)
include h
theorem Stp.cp : w.cell? ⟨pb, 0, none⟩ = some (ptr p) := h.blk.cell stpL_p
theorem Stp.ce : w.cell? ⟨pb, 28, none⟩ = some (vi e) := h.blk.cell (stpL_tail h.sy.len19 (k := 8))
theorem Stp.co : w.cell? ⟨pb, 27, none⟩ = some ov := h.blk.cell (stpL_tail h.sy.len19 (k := 7))
theorem Stp.cin : w.cell? ⟨pb, 25, none⟩ = some (vi inputs) := h.blk.cell (stpL_tail h.sy.len19 (k := 5))
theorem Stp.cmw : w.cell? ⟨pb, 26, none⟩ = some (vi mw) := h.blk.cell (stpL_tail h.sy.len19 (k := 6))
theorem Stp.cop : w.cell? ⟨pb, 20, none⟩ = some (vi i.op) := h.blk.cell (stpL_tail h.sy.len19 (k := 0))
theorem Stp.cA : w.cell? ⟨pb, 21, none⟩ = some (vi i.a) := h.blk.cell (stpL_tail h.sy.len19 (k := 1))
theorem Stp.cB : w.cell? ⟨pb, 22, none⟩ = some (vi i.b) := h.blk.cell (stpL_tail h.sy.len19 (k := 2))
theorem Stp.cC : w.cell? ⟨pb, 23, none⟩ = some (vi i.c) := h.blk.cell (stpL_tail h.sy.len19 (k := 3))
theorem Stp.cI : w.cell? ⟨pb, 24, none⟩ = some (vw i.imm) := h.blk.cell (stpL_tail h.sy.len19 (k := 4))
theorem Stp.creg {r : Int} (h0 : 0 ≤ r) (h1 : r ≤ 7) : w.cell? ⟨pb, 1 + r.toNat, none⟩ = some (vi (s.reg r)) := by
  refine h.blk.cell ?_
  rw [Nat.add_comm, stpL_sv h.sy.len19 (by omega)]
  obtain ⟨h8, c, a, b, d, h2, _⟩ := h.sy
  simp only [Value.agg.injEq, Array.mk.injEq] at h2
  rw [h2]
  unfold Sy.vals
  rw [List.getElem?_append_left (by simp; omega), List.getElem?_map, List.getElem?_eq_getElem (by omega)]
  unfold Sy.reg
  rw [List.getD_eq_getElem?_getD, List.getElem?_eq_getElem (by omega)]; rfl
theorem Stp.svs {k : Kt} (hk : k (.agg ⟨sv⟩) w) : M.loadA 19 (.pointer (some ⟨pb, 1, none⟩)) k w := by
  have hl := h.sy.len19
  refine M.loadA_i h.blk (by rw [stpL_len hl]; omega) ?_
  rw [stpL_all hl]; exact hk
end
end Go.Proofs.YtanjlgafjgoaaaaGreat
namespace Go.Proofs.YtanjlgafjgoaaaaGreat
open Go.Mw
set_option linter.unusedVariables false
set_option linter.unusedSimpArgs false
set_option maxRecDepth 100000
attribute [local irreducible] M.val M.unit M.next M.pick M.new M.nilCheck M.load1 M.loadA M.store M.fieldAddr M.indexSl M.indexArr M.slice M.makeSlice M.buildSlice M.len M.lenS M.cap M.append M.extract M.conv M.not M.neg M.bin M.shift M.eqB M.eqNil M.scat M.call M.callv M.gd M.share M.cond M.loop M.draw pureW readW Ret
variable {Z : Nat → Prop}
def sh47 (x0 x1 x2 : Value) (R : Kt) (w : World) : Prop :=
  M.share (fun K1 w =>
  M.nilCheck x0 (fun t8 w =>
  M.fieldAddr 28 t8 (fun t9 w =>
  M.load1 t9 (fun t10 w =>
  M.bin .eql t10 (Value.int IntKind.i64 0) (fun t11 w =>
  M.cond t11
  (M.nilCheck x0 (fun t14 w =>
  M.fieldAddr 28 t14 (fun t15 w =>
  M.store 1 t15 x2 (fun _ w =>
  K1 [] w) w) w) w)
  (K1 [] w)) w) w) w) w) (fun s1 w => ∀ _ : List Value,
  R x1 w) w
theorem ok47 (x0 x1 x2 : Value) (R : Kt) (w : World) (h : sh47 x0 x1 x2 R w) : Ret Tryz.prog 47 #[x0, x1, x2] w R :=
  ret_mk <| calls_of_comp mixed (c := Tryz.f47.body.getD .skip) (args := [x0, x1, x2]) (rs := [(ResultVar.tmp 6)]) (Ann.seq Ann.text (Ann.join [] [7, 8, 9, 10, 11, 12, 13, 14, 15] (Ann.seq Ann.text (Ann.cond Ann.text Ann.leaf)) (Ann.seq Ann.text Ann.leaf)))
    Tryz.func47 (by kernel_rfl) (by kernel_rfl)
    (Eq.mp (by kernel_rfl) h)
def sh45 (x0 x1 : Value) (R : Kt) (w : World) : Prop :=
  M.nilCheck x0 (fun t7 w =>
  M.fieldAddr 0 t7 (fun t8 w =>
  M.load1 t8 (fun t9 w =>
  M.call Tryz.prog 16 #[t9, (Value.int IntKind.i64 64), x1] (fun t11 w =>
  M.extract 0 t11 (fun t12 w =>
  M.extract 1 t11 (fun t13 w =>
  M.call Tryz.prog 47 #[x0, t12, t13] (fun t14 w =>
  R t14 w) w) w) w) w) w) w) w
theorem ok45 (x0 x1 : Value) (R : Kt) (w : World) (h : sh45 x0 x1 R w) : Ret Tryz.prog 45 #[x0, x1] w R :=
  ret_mk <| calls_of_comp mixed (c := Tryz.f45.body.getD .skip) (args := [x0, x1]) (rs := [(ResultVar.tmp 4)]) (Ann.seq Ann.text (Ann.seq Ann.text Ann.leaf))
    Tryz.func45 (by kernel_rfl) (by kernel_rfl)
    (Eq.mp (by kernel_rfl) h)
def sh88 (x0 x1 x2 : Value) (R : Kt) (w : World) : Prop :=
  M.draw (fun w =>
  M.nilCheck x0 (fun t9 w =>
  M.fieldAddr 0 t9 (fun t10 w =>
  M.load1 t10 (fun t11 w =>
  M.call Tryz.prog 45 #[x0, x2] (fun t15 w =>
  ((M.load1 t10 (fun v' _ => v' = t11) w) ∧ M.call Tryz.prog 85 #[t11, (Value.int IntKind.i64 12), x1, t15] (fun t16 w =>
  M.extract 0 t16 (fun t17 w =>
  M.extract 1 t16 (fun t18 w =>
  M.call Tryz.prog 47 #[x0, t17, t18] (fun t19 w =>
  R t19 w) w) w) w) w)) w) w) w) w) w
theorem ok88 (x0 x1 x2 : Value) (R : Kt) (w : World) (h : sh88 x0 x1 x2 R w) : Ret Tryz.prog 88 #[x0, x1, x2] w R :=
  ret_mk <| calls_of_comp mixed (c := Tryz.f88.body.getD .skip) (args := [x0, x1, x2]) (rs := [(ResultVar.tmp 6)]) (Ann.seq Ann.text (Ann.seq (Ann.draw (Sch.take 0 (Sch.take 1 (Sch.take 2 (Sch.take 3 (Sch.take 4 (Sch.take 5 (Sch.take 6 (Sch.take 7 (Sch.one 8 (Sch.one 9 (Sch.take 10 (Sch.take 11 (Sch.one 12 (Sch.take 13 Sch.done))))))))))))))) Ann.leaf))
    Tryz.func88 (by kernel_rfl) (by kernel_rfl)
    (Eq.mp (by kernel_rfl) h)
def sh89 (x0 x1 : Value) (R : Kt) (w : World) : Prop :=
  M.nilCheck x0 (fun t7 w =>
  M.fieldAddr 0 t7 (fun t8 w =>
  M.load1 t8 (fun t9 w =>
  M.call Tryz.prog 48 #[t9, (Value.int IntKind.i64 15), x1] (fun t11 w =>
  M.extract 0 t11 (fun t12 w =>
  M.extract 1 t11 (fun t13 w =>
  M.call Tryz.prog 47 #[x0, t12, t13] (fun t14 w =>
  R t14 w) w) w) w) w) w) w) w
theorem ok89 (x0 x1 : Value) (R : Kt) (w : World) (h : sh89 x0 x1 R w) : Ret Tryz.prog 89 #[x0, x1] w R :=
  ret_mk <| calls_of_comp mixed (c := Tryz.f89.body.getD .skip) (args := [x0, x1]) (rs := [(ResultVar.tmp 4)]) (Ann.seq Ann.text (Ann.seq Ann.text Ann.leaf))
    Tryz.func89 (by kernel_rfl) (by kernel_rfl)
    (Eq.mp (by kernel_rfl) h)
def sh84 (x0 : Value) (R : Kt) (w : World) : Prop :=
  M.new 39 #[.int .i64 0, .int .i64 0, .int .i64 0, .int .i64 0, .int .i64 0, .int .i64 0, .int .i64 0, .int .i64 0, .slice none 0 0, .int .i64 0, .int .i64 0, .int .i64 0, .int .i64 0, .int .i64 0, .int .i64 0, .slice none 0 0, .slice none 0 0, .int .i64 0, .slice none 0 0] (fun t2 w =>
  M.nilCheck x0 (fun t5 w =>
  M.fieldAddr 1 t5 (fun t6 w =>
  M.loadA 19 t6 (fun t7 w =>
  M.new 39 #[.int .i64 0, .int .i64 0, .int .i64 0, .int .i64 0, .int .i64 0, .int .i64 0, .int .i64 0, .int .i64 0, .slice none 0 0, .int .i64 0, .int .i64 0, .int .i64 0, .int .i64 0, .int .i64 0, .int .i64 0, .slice none 0 0, .slice none 0 0, .int .i64 0, .slice none 0 0] (fun t3 w =>
  M.store 19 t3 t7 (fun _ w =>
  M.fieldAddr 9 t3 (fun t8 w =>
  M.load1 t8 (fun t9 w =>
  M.bin .add t9 (Value.int IntKind.i64 1) (fun t10 w =>
  M.fieldAddr 9 t3 (fun t11 w =>
  M.store 1 t11 t10 (fun _ w =>
  M.loadA 19 t3 (fun t12 w =>
  M.store 19 t2 t12 (fun _ w =>
  M.loadA 19 t2 (fun r0 w => R r0 w) w) w) w) w) w) w) w) w) w) w) w) w) w) w
theorem ok84 (x0 : Value) (R : Kt) (w : World) (h : sh84 x0 R w) : Ret Tryz.prog 84 #[x0] w R :=
  ret_mk <| calls_of_comp mixed (c := Tryz.f84.body.getD .skip) (args := [x0]) (rs := [(ResultVar.cell 2 39)]) (Ann.seq Ann.text (Ann.seq Ann.text (Ann.seq Ann.text (Ann.seq Ann.text Ann.leaf))))
    Tryz.func84 (by kernel_rfl) (by kernel_rfl)
    (Eq.mp (by kernel_rfl) h)
def sh44 (x0 x1 : Value) (R : Kt) (w : World) : Prop :=
  M.new 39 #[.int .i64 0, .int .i64 0, .int .i64 0, .int .i64 0, .int .i64 0, .int .i64 0, .int .i64 0, .int .i64 0, .slice none 0 0, .int .i64 0, .int .i64 0, .int .i64 0, .int .i64 0, .int .i64 0, .int .i64 0, .slice none 0 0, .slice none 0 0, .int .i64 0, .slice none 0 0] (fun t4 w =>
  M.call Tryz.prog 84 #[x0] (fun t7 w =>
  M.new 39 #[.int .i64 0, .int .i64 0, .int .i64 0, .int .i64 0, .int .i64 0, .int .i64 0, .int .i64 0, .int .i64 0, .slice none 0 0, .int .i64 0, .int .i64 0, .int .i64 0, .int .i64 0, .int .i64 0, .int .i64 0, .slice none 0 0, .slice none 0 0, .int .i64 0, .slice none 0 0] (fun t5 w =>
  M.store 19 t5 t7 (fun _ w =>
  M.nilCheck x0 (fun t9 w =>
  M.fieldAddr 20 t9 (fun t10 w =>
  M.fieldAddr 1 t10 (fun t11 w =>
  M.load1 t11 (fun t12 w =>
  M.fieldAddr 0 t5 (fun t14 w =>
  M.indexArr 8 1 t14 t12 (fun t15 w =>
  M.store 1 t15 x1 (fun _ w =>
  M.loadA 19 t5 (fun t16 w =>
  M.store 19 t4 t16 (fun _ w =>
  M.loadA 19 t4 (fun r0 w => R r0 w) w) w) w) w) w) w) w) w) w) w) w) w) w) w
theorem ok44 (x0 x1 : Value) (R : Kt) (w : World) (h : sh44 x0 x1 R w) : Ret Tryz.prog 44 #[x0, x1] w R :=
  ret_mk <| calls_of_comp mixed (c := Tryz.f44.body.getD .skip) (args := [x0, x1]) (rs := [(ResultVar.cell 4 39)]) (Ann.seq Ann.text (Ann.seq Ann.text (Ann.seq Ann.text (Ann.seq Ann.text Ann.leaf))))
    Tryz.func44 (by kernel_rfl) (by kernel_rfl)
    (Eq.mp (by kernel_rfl) h)
def sh22 (x0 x1 : Value) (R : Kt) (w : World) : Prop :=
  M.new 39 #[.int .i64 0, .int .i64 0, .int .i64 0, .int .i64 0, .int .i64 0, .int .i64 0, .int .i64 0, .int .i64 0, .slice none 0 0, .int .i64 0, .int .i64 0, .int .i64 0, .int .i64 0, .int .i64 0, .int .i64 0, .slice none 0 0, .slice none 0 0, .int .i64 0, .slice none 0 0] (fun t4 w =>
  M.nilCheck x0 (fun t7 w =>
  M.fieldAddr 1 t7 (fun t8 w =>
  M.loadA 19 t8 (fun t9 w =>
  M.new 39 #[.int .i64 0, .int .i64 0, .int .i64 0, .int .i64 0, .int .i64 0, .int .i64 0, .int .i64 0, .int .i64 0, .slice none 0 0, .int .i64 0, .int .i64 0, .int .i64 0, .int .i64 0, .int .i64 0, .int .i64 0, .slice none 0 0, .slice none 0 0, .int .i64 0, .slice none 0 0] (fun t5 w =>
  M.store 19 t5 t9 (fun _ w =>
  M.fieldAddr 12 t5 (fun t11 w =>
  M.store 1 t11 (Value.int IntKind.i64 2) (fun _ w =>
  M.fieldAddr 13 t5 (fun t12 w =>
  M.store 1 t12 x1 (fun _ w =>
  M.loadA 19 t5 (fun t13 w =>
  M.store 19 t4 t13 (fun _ w =>
  M.loadA 19 t4 (fun r0 w => R r0 w) w) w) w) w) w) w) w) w) w) w) w) w) w
theorem ok22 (x0 x1 : Value) (R : Kt) (w : World) (h : sh22 x0 x1 R w) : Ret Tryz.prog 22 #[x0, x1] w R :=
  ret_mk <| calls_of_comp mixed (c := Tryz.f22.body.getD .skip) (args := [x0, x1]) (rs := [(ResultVar.cell 4 39)]) (Ann.seq Ann.text (Ann.seq Ann.text (Ann.seq Ann.text (Ann.seq Ann.text Ann.leaf))))
    Tryz.func22 (by kernel_rfl) (by kernel_rfl)
    (Eq.mp (by kernel_rfl) h)
def sh49 (x0 : Value) (R : Kt) (w : World) : Prop :=
  M.new 39 #[.int .i64 0, .int .i64 0, .int .i64 0, .int .i64 0, .int .i64 0, .int .i64 0, .int .i64 0, .int .i64 0, .slice none 0 0, .int .i64 0, .int .i64 0, .int .i64 0, .int .i64 0, .int .i64 0, .int .i64 0, .slice none 0 0, .slice none 0 0, .int .i64 0, .slice none 0 0] (fun t2 w =>
  M.nilCheck x0 (fun t5 w =>
  M.fieldAddr 1 t5 (fun t6 w =>
  M.loadA 19 t6 (fun t7 w =>
  M.new 39 #[.int .i64 0, .int .i64 0, .int .i64 0, .int .i64 0, .int .i64 0, .int .i64 0, .int .i64 0, .int .i64 0, .slice none 0 0, .int .i64 0, .int .i64 0, .int .i64 0, .int .i64 0, .int .i64 0, .int .i64 0, .slice none 0 0, .slice none 0 0, .int .i64 0, .slice none 0 0] (fun t3 w =>
  M.store 19 t3 t7 (fun _ w =>
  M.nilCheck x0 (fun t9 w =>
  M.fieldAddr 20 t9 (fun t10 w =>
  M.fieldAddr 4 t10 (fun t11 w =>
  M.load1 t11 (fun t12 w =>
  M.conv .i64 t12 (fun t13 w =>
  M.fieldAddr 9 t3 (fun t14 w =>
  M.store 1 t14 t13 (fun _ w =>
  M.loadA 19 t3 (fun t15 w =>
  M.store 19 t2 t15 (fun _ w =>
  M.loadA 19 t2 (fun r0 w => R r0 w) w) w) w) w) w) w) w) w) w) w) w) w) w) w) w) w
theorem ok49 (x0 : Value) (R : Kt) (w : World) (h : sh49 x0 R w) : Ret Tryz.prog 49 #[x0] w R :=
  ret_mk <| calls_of_comp mixed (c := Tryz.f49.body.getD .skip) (args := [x0]) (rs := [(ResultVar.cell 2 39)]) (Ann.seq Ann.text (Ann.seq Ann.text (Ann.seq Ann.text (Ann.seq Ann.text Ann.leaf))))
    Tryz.func49 (by kernel_rfl) (by kernel_rfl)
    (Eq.mp (by kernel_rfl) h)
def sh98 (x0 x1 : Value) (R : Kt) (w : World) : Prop :=
  M.new 33 (Value.cells x1) (fun t3 w =>
  M.new 39 #[.int .i64 0, .int .i64 0, .int .i64 0, .int .i64 0, .int .i64 0, .int .i64 0, .int .i64 0, .int .i64 0, .slice none 0 0, .int .i64 0, .int .i64 0, .int .i64 0, .int .i64 0, .int .i64 0, .int .i64 0, .slice none 0 0, .slice none 0 0, .int .i64 0, .slice none 0 0] (fun t4 w =>
  M.call Tryz.prog 84 #[x0] (fun t7 w =>
  M.new 39 #[.int .i64 0, .int .i64 0, .int .i64 0, .int .i64 0, .int .i64 0, .int .i64 0, .int .i64 0, .int .i64 0, .slice none 0 0, .int .i64 0, .int .i64 0, .int .i64 0, .int .i64 0, .int .i64 0, .int .i64 0, .slice none 0 0, .slice none 0 0, .int .i64 0, .slice none 0 0] (fun t5 w =>
  M.store 19 t5 t7 (fun _ w =>
  M.loadA 3 t3 (fun t8 w =>
  M.fieldAddr 15 t5 (fun t9 w =>
  M.store 3 t9 t8 (fun _ w =>
  M.fieldAddr 11 t5 (fun t10 w =>
  M.load1 t10 (fun t11 w =>
  M.bin .add t11 (Value.int IntKind.i64 1) (fun t12 w =>
  M.fieldAddr 11 t5 (fun t13 w =>
  M.store 1 t13 t12 (fun _ w =>
  M.loadA 19 t5 (fun t14 w =>
  M.store 19 t4 t14 (fun _ w =>
  M.loadA 19 t4 (fun r0 w => R r0 w) w) w) w) w) w) w) w) w) w) w) w) w) w) w) w) w
theorem ok98 (x0 x1 : Value) (R : Kt) (w : World) (h : sh98 x0 x1 R w) : Ret Tryz.prog 98 #[x0, x1] w R :=
  ret_mk <| calls_of_comp mixed (c := Tryz.f98.body.getD .skip) (args := [x0, x1]) (rs := [(ResultVar.cell 4 39)]) (Ann.seq Ann.text (Ann.seq Ann.text (Ann.seq Ann.text (Ann.seq Ann.text (Ann.seq Ann.text Ann.leaf)))))
    Tryz.func98 (by kernel_rfl) (by kernel_rfl)
    (Eq.mp (by kernel_rfl) h)
section
variable {w : World} {F : Nat → Prop} {p pb : Nat} {N : List Nd} {most : Int} {s : Sy} {sv : List Value} {i : Ins} {inputs mw : Int} {ov : Value} {outs : List Sy} {e : Int}
def Idd (Z : Nat → Prop) (w : World) (F : Nat → Prop) (p pb : Nat) (most : Int) (s : Sy) (sv : List Value) (i : Ins) (inputs mw : Int) (ov : Value) (outs : List Sy) (res : Rs) (r : Value) (w' : World) : Prop :=
  r = vi res.2.1 ∧ ∃ F', Stp Z w' F' p pb res.1 most s sv i inputs mw ov outs res.2.2 ∧ Mv w F pb ov w' F' ov
theorem Idd.pre {w1 w' : World} {F1 : Nat → Prop} {res : Rs} {r : Value} (m : Mv w F pb ov w1 F1 ov) (h : Idd Z w1 F1 p pb most s sv i inputs mw ov outs res r w') : Idd Z w F p pb most s sv i inputs mw ov outs res r w' := by
  obtain ⟨h1, F2, h2, h3⟩ := h
  exact ⟨h1, F2, h2, m.trans h3⟩
theorem keep37_ret (h : Stp Z w F p pb N most s sv i inputs mw ov outs e) (id e2 : Int) :
    Ret Tryz.prog 47 #[ptr pb, vi id, vi e2] w (Idd Z w F p pb most s sv i inputs mw ov outs (kp e (N, id, e2))) := by
  have hce := h.ce
  refine ok47 _ _ _ _ _ ?_
  unfold sh47
  unfold kp
  refine M.share_j (fun vals w' => ∃ F', Stp Z w' F' p pb N most s sv i inputs mw ov outs (if e = 0 then e2 else e) ∧ Mv w F pb ov w' F' ov) ?_ ?_
  · rintro vals w' ⟨F', h1, h2⟩ _
    exact ⟨rfl, F', h1, h2⟩
  intro K hK
  by_cases h0 : e = 0
  · rw [if_pos h0] at hK
    (repeat (first|refine jb ?_|refine jc ?_|refine jo ?_|refine jG ?_|refine jM (by assumption) ?_))
    have hl := h.sy.len19
    refine M.store_i h.blk (by rw [stpL_len hl]; omega) rfl (fun w1 b1 k1 s1 => ?_)
    rw [show 0 + 28 = 28 from rfl, stpL_setE hl] at b1
    obtain ⟨h1, m1⟩ := h.put b1 k1
    exact hK _ _ ⟨F, h1, m1⟩
  · rw [if_neg h0] at hK
    (repeat (first|refine jb ?_|refine jc ?_|refine jp ?_|refine jH ?_|refine jM (by assumption) ?_))
    exact hK _ _ ⟨F, h, Mv.none (Keep.refl _ _)⟩
theorem word37_ret (h : Stp Z w F p pb N most s sv i inputs mw ov outs e) (x : W64) :
    Ret Tryz.prog 45 #[ptr pb, vw x] w (Idd Z w F p pb most s sv i inputs mw ov outs (wordP most N e x)) := by
  have hcp := h.cp
  refine ok45 _ _ _ _ ?_
  unfold sh45
  (repeat (first|refine jb ?_|refine jc ?_|refine jM (by assumption) ?_))
  refine M.call_i (const_ret h.dag 64 x) ?_; rintro _ w1 ⟨F1, rfl, d1, f1, k1⟩
  refine M.extract_i (v := vi (constN most N 64 x).2.1) rfl ?_
  refine M.extract_i (v := vi (constN most N 64 x).2.2) rfl ?_
  obtain ⟨h1, m1⟩ := h.ask d1 f1 k1
  refine M.call_i (keep37_ret h1 _ _) ?_
  exact fun v w' hv => hv.pre m1
theorem not37_ret (h : Stp Z w F p pb N most s sv i inputs mw ov outs e) (c : Int) :
    Ret Tryz.prog 89 #[ptr pb, vi c] w (Idd Z w F p pb most s sv i inputs mw ov outs (notP most N e c)) := by
  have hcp := h.cp
  refine ok89 _ _ _ _ ?_
  unfold sh89
  (repeat (first|refine jb ?_|refine jc ?_|refine jM (by assumption) ?_))
  refine M.call_i (foldUn_ret h.dag 15 c) ?_; rintro _ w1 ⟨F1, rfl, d1, f1, k1⟩
  refine M.extract_i (v := vi (foldUn most N 15 c).2.1) rfl ?_
  refine M.extract_i (v := vi (foldUn most N 15 c).2.2) rfl ?_
  obtain ⟨h1, m1⟩ := h.ask d1 f1 k1
  refine M.call_i (keep37_ret h1 _ _) ?_
  exact fun v w' hv => hv.pre m1
theorem is37_ret (h : Stp Z w F p pb N most s sv i inputs mw ov outs e) (id : Int) (x : W64) :
    Ret Tryz.prog 88 #[ptr pb, vi id, vw x] w (Idd Z w F p pb most s sv i inputs mw ov outs (isP most N e id x)) := by
  refine ok88 _ _ _ _ _ ?_
  unfold sh88
  have kd := Keep.drew w No
  have h0 := h.keepN kd
  have hcp := h0.cp
  (repeat (first|refine jb ?_|refine jc ?_|refine jd ?_|refine jM (by assumption) ?_))
  refine M.call_i (word37_ret h0 x) ?_
  rintro _ w1 ⟨rfl, F1, h1, m1⟩
  have hcp1 := h1.cp
  (repeat (refine jO (by assumption) ?_))
  refine M.call_i (foldBin_ret h1.dag 12 id (wordP most N e x).2.1) ?_; rintro _ w2 ⟨F2, rfl, d2, f2, k2⟩
  refine M.extract_i rfl ?_
  refine M.extract_i rfl ?_
  obtain ⟨h2, m2⟩ := h1.ask d2 f2 k2
  refine M.call_i (keep37_ret h2 _ _) ?_
  exact fun v w' hv => hv.pre ((Mv.pre kd m1).trans m2)
theorem vals_one {s : Sy} {c a b d : Value} (h1 : c.oneCell' = true) (h2 : a.oneCell' = true) (h3 : b.oneCell' = true) (h4 : d.oneCell' = true) : ∀ y ∈ s.vals c a b d, y.oneCell' = true := by
  intro y hy
  unfold Sy.vals at hy
  rcases List.mem_append.1 hy with hy | hy
  · obtain ⟨x, _, rfl⟩ := List.mem_map.1 hy
    rfl
  · simp only [List.mem_cons, List.not_mem_nil, or_false] at hy
    rcases hy with rfl | rfl | rfl | rfl | rfl | rfl | rfl | rfl | rfl | rfl | rfl
    all_goals first | rfl | assumption
theorem vals_inj {s : Sy} {c a b d c' a' b' d' : Value} (h : s.vals c a b d = s.vals c' a' b' d') : c = c' ∧ a = a' ∧ b = b' ∧ d = d' := by
  unfold Sy.vals at h
  have := List.append_cancel_left h
  simp only [List.cons.injEq] at this
  exact ⟨this.1, this.2.2.2.2.2.2.2.1, this.2.2.2.2.2.2.2.2.1, this.2.2.2.2.2.2.2.2.2.2.1⟩
theorem Stp.lists {c a b d : Value} (h : Stp Z w F p pb N most s sv i inputs mw ov outs e) (hsv : sv = s.vals c a b d) : LV vi w (Fr Z F pb ov) c s.cells ∧ SDvO w (Fr Z F pb ov) a b s.dev ∧ LV vi w (Fr Z F pb ov) d s.conds := by
  obtain ⟨h8, c', a', b', d', h2, hc, hdv, hcd⟩ := h.sy
  simp only [Value.agg.injEq, Array.mk.injEq] at h2
  obtain ⟨rfl, rfl, rfl, rfl⟩ := vals_inj (hsv.symm.trans h2)
  exact ⟨hc, hdv, hcd⟩
theorem Stp.one4 {c a b d : Value} (h : Stp Z w F p pb N most s sv i inputs mw ov outs e) (hsv : sv = s.vals c a b d) : c.oneCell' = true ∧ a.oneCell' = true ∧ b.oneCell' = true ∧ d.oneCell' = true := by
  obtain ⟨h1, h2, h3⟩ := h.lists hsv
  exact ⟨LV.one h1, LV.one h2.1, LN.one h2.2, LV.one h3⟩
theorem fin_v {w2 : World} {R : Kt} {t : Nat} {l0 L : List Value} (b2 : Blk w2 t l0) (hl0 : l0.length = 19) (hL : L.length = 19) (hone : ∀ y ∈ L, y.oneCell' = true)
    (hR : ∀ w', Keep w2 w' (· = t) → R (.agg ⟨L⟩) w') : M.store 19 (ptr t) (.agg ⟨L⟩) (fun _ w => M.loadA 19 (ptr t) (fun r0 w => R r0 w) w) w2 := by
  refine M.storeAll_i b2 hL hl0 hone (fun w3 b3 k3 s3 => ?_)
  exact M.loadAll_i b3 hL (hR w3 k3)
theorem M.arr8_i {k : Kt} {w : World} {len : Nat} {d : IntKind} {i : Int} {b o : Nat} (h0 : 0 ≤ i) (h1 : i < len) (h : k (.pointer (some ⟨b, o + i.toNat, none⟩)) w) : M.indexArr len 1 (.pointer (some ⟨b, o, none⟩)) (.int d i) k w := by
  unfold M.indexArr; simp only [add_mk, Nat.mul_one]; exact ⟨⟨h0, h1⟩, h⟩
variable {c a b d : Value}
theorem next37_ret (h : Stp Z w F p pb N most s sv i inputs mw ov outs e) (hsv : sv = s.vals c a b d) (hb : 0 ≤ s.pc ∧ s.pc ≤ 1000000) :
    Ret Tryz.prog 84 #[ptr pb] w (fun r w' => r = .agg ⟨s.next.vals c a b d⟩ ∧ Keep w w' No) := by
  refine ok84 _ _ _ ?_
  unfold sh84
  refine M.new_i (l := zSy) (fun w1 b1 k1 s1 => ?_)
  (repeat (first|refine jb ?_|refine jc ?_))
  refine (h.keepN k1).svs ?_
  refine M.new_i (l := zSy) (fun w2 b2 k2 s2 => ?_)
  have b1 := b1.keep k2 (fun h => h)
  have k02 := k1.trans k2 (fun _ _ h => h)
  obtain ⟨o1, o2, o3, o4⟩ := h.one4 hsv
  have h8 := h.sy.1
  have hplt := h.blk.lt
  obtain ⟨regs, cells, pc, steps, calls, en, code, value, ⟨disk, pend, ep⟩, conds⟩ := s
  obtain ⟨r0, r1, r2, r3, r4, r5, r6, r7, rfl⟩ := eight h8
  have hsv : sv = [vi r0, vi r1, vi r2, vi r3, vi r4, vi r5, vi r6, vi r7, c, vi pc, vi steps, vi calls, vi en, vi code, vi value, a, b, vi ep, d] := hsv
  have one := fun (s' : Sy) => vals_one (s := s') o1 o2 o3 o4
  subst hsv
  refine M.storeAll_i b2 rfl rfl (one ⟨[r0, r1, r2, r3, r4, r5, r6, r7], cells, pc, steps, calls, en, code, value, ⟨disk, pend, ep⟩, conds⟩) (fun w3 b3 k3 s3 => ?_)
  have hne : w.heap.size ≠ w1.heap.size := by omega
  have b1 := b1.keep k3 hne
  have k03 : Keep w w3 No := k02.trans k3 (fun x hx e => by have e : x = w1.heap.size := e; omega)
  have hb : 0 ≤ pc ∧ pc ≤ 1000000 := hb
  (repeat (first|refine jc ?_|refine jK ?_|refine jN (by assumption) rfl ?_))
  refine M.store_i b3 (by simp) rfl (fun w4 b4 k4 s4 => ?_)
  have b1 := b1.keep k4 hne
  have k04 : Keep w w4 No := k03.trans k4 (fun x hx e => by have e : x = w1.heap.size := e; omega)
  refine M.loadAll_i b4 rfl ?_
  exact fin_v b1 rfl rfl (one (Sy.next ⟨[r0, r1, r2, r3, r4, r5, r6, r7], cells, pc, steps, calls, en, code, value, ⟨disk, pend, ep⟩, conds⟩)) (fun w9 k9 => ⟨rfl, k04.trans k9 (fun x hx e => by have e : x = w.heap.size := e; omega)⟩)
theorem trap37_ret (h : Stp Z w F p pb N most s sv i inputs mw ov outs e) (hsv : sv = s.vals c a b d) (cd : Int) :
    Ret Tryz.prog 22 #[ptr pb, vi cd] w (fun r w' => r = .agg ⟨(s.trap cd).vals c a b d⟩ ∧ Keep w w' No) := by
  refine ok22 _ _ _ _ ?_
  unfold sh22
  refine M.new_i (l := zSy) (fun w1 b1 k1 s1 => ?_)
  (repeat (first|refine jb ?_|refine jc ?_))
  refine (h.keepN k1).svs ?_
  refine M.new_i (l := zSy) (fun w2 b2 k2 s2 => ?_)
  have b1 := b1.keep k2 (fun h => h)
  have k02 := k1.trans k2 (fun _ _ h => h)
  obtain ⟨o1, o2, o3, o4⟩ := h.one4 hsv
  have h8 := h.sy.1
  have hplt := h.blk.lt
  obtain ⟨regs, cells, pc, steps, calls, en, code, value, ⟨disk, pend, ep⟩, conds⟩ := s
  obtain ⟨r0, r1, r2, r3, r4, r5, r6, r7, rfl⟩ := eight h8
  have hsv : sv = [vi r0, vi r1, vi r2, vi r3, vi r4, vi r5, vi r6, vi r7, c, vi pc, vi steps, vi calls, vi en, vi code, vi value, a, b, vi ep, d] := hsv
  have one := fun (s' : Sy) => vals_one (s := s') o1 o2 o3 o4
  subst hsv
  refine M.storeAll_i b2 rfl rfl (one ⟨[r0, r1, r2, r3, r4, r5, r6, r7], cells, pc, steps, calls, en, code, value, ⟨disk, pend, ep⟩, conds⟩) (fun w3 b3 k3 s3 => ?_)
  have hne : w.heap.size ≠ w1.heap.size := by omega
  have b1 := b1.keep k3 hne
  have k03 : Keep w w3 No := k02.trans k3 (fun x hx e => by have e : x = w1.heap.size := e; omega)
  (repeat (refine jc ?_))
  refine M.store_i b3 (by simp) rfl (fun w4 b4 k4 s4 => ?_)
  have b1 := b1.keep k4 hne
  have k04 : Keep w w4 No := k03.trans k4 (fun x hx e => by have e : x = w1.heap.size := e; omega)
  (repeat (refine jc ?_))
  refine M.store_i b4 (by simp) rfl (fun w5 b5 k5 s5 => ?_)
  have b1 := b1.keep k5 hne
  have k05 : Keep w w5 No := k04.trans k5 (fun x hx e => by have e : x = w1.heap.size := e; omega)
  refine M.loadAll_i b5 rfl ?_
  exact fin_v b1 rfl rfl (one (Sy.trap ⟨[r0, r1, r2, r3, r4, r5, r6, r7], cells, pc, steps, calls, en, code, value, ⟨disk, pend, ep⟩, conds⟩ cd)) (fun w9 k9 => ⟨rfl, k05.trans k9 (fun x hx e => by have e : x = w.heap.size := e; omega)⟩)
theorem at37_ret (h : Stp Z w F p pb N most s sv i inputs mw ov outs e) (hsv : sv = s.vals c a b d) (hI : i.imm.toNat < 9223372036854775808) :
    Ret Tryz.prog 49 #[ptr pb] w (fun r w' => r = .agg ⟨(s.at i).vals c a b d⟩ ∧ Keep w w' No) := by
  refine ok49 _ _ _ ?_
  unfold sh49
  refine M.new_i (l := zSy) (fun w1 b1 k1 s1 => ?_)
  (repeat (first|refine jb ?_|refine jc ?_))
  refine (h.keepN k1).svs ?_
  refine M.new_i (l := zSy) (fun w2 b2 k2 s2 => ?_)
  have b1 := b1.keep k2 (fun h => h)
  have k02 := k1.trans k2 (fun _ _ h => h)
  obtain ⟨o1, o2, o3, o4⟩ := h.one4 hsv
  have h8 := h.sy.1
  have hplt := h.blk.lt
  obtain ⟨regs, cells, pc, steps, calls, en, code, value, ⟨disk, pend, ep⟩, conds⟩ := s
  obtain ⟨r0, r1, r2, r3, r4, r5, r6, r7, rfl⟩ := eight h8
  have hsv : sv = [vi r0, vi r1, vi r2, vi r3, vi r4, vi r5, vi r6, vi r7, c, vi pc, vi steps, vi calls, vi en, vi code, vi value, a, b, vi ep, d] := hsv
  have one := fun (s' : Sy) => vals_one (s := s') o1 o2 o3 o4
  subst hsv
  refine M.storeAll_i b2 rfl rfl (one ⟨[r0, r1, r2, r3, r4, r5, r6, r7], cells, pc, steps, calls, en, code, value, ⟨disk, pend, ep⟩, conds⟩) (fun w3 b3 k3 s3 => ?_)
  have hne : w.heap.size ≠ w1.heap.size := by omega
  have b1 := b1.keep k3 hne
  have k03 : Keep w w3 No := k02.trans k3 (fun x hx e => by have e : x = w1.heap.size := e; omega)
  have hcI := (h.keepN k03).cI
  (repeat (first|refine jb ?_|refine jc ?_|refine jM (by assumption) ?_))
  refine M.toIntW_i ?_
  have eI : i.imm.toInt = (i.imm.toNat : Int) := by rw [BitVec.toInt_eq_toNat_cond]; rw [if_pos (by omega)]
  rw [eI]
  (repeat (refine jc ?_))
  refine M.store_i b3 (by simp) rfl (fun w4 b4 k4 s4 => ?_)
  have b1 := b1.keep k4 hne
  have k04 : Keep w w4 No := k03.trans k4 (fun x hx e => by have e : x = w1.heap.size := e; omega)
  refine M.loadAll_i b4 rfl ?_
  exact fin_v b1 rfl rfl (one (Sy.at ⟨[r0, r1, r2, r3, r4, r5, r6, r7], cells, pc, steps, calls, en, code, value, ⟨disk, pend, ep⟩, conds⟩ i)) (fun w9 k9 => ⟨rfl, k04.trans k9 (fun x hx e => by have e : x = w.heap.size := e; omega)⟩)
theorem vals_set (h8 : s.regs.length = 8) {k : Nat} (hk : k < 8) (x : Int) : (s.vals c a b d).set k (vi x) = ({ s with regs := s.regs.set k x } : Sy).vals c a b d := by
  unfold Sy.vals
  rw [List.set_append_left _ _ (by simp; omega), ← List.map_set]
theorem vals_len (h8 : s.regs.length = 8) : (s.vals c a b d).length = 19 := by simp [Sy.vals, h8]
theorem set37_ret (h : Stp Z w F p pb N most s sv i inputs mw ov outs e) (hsv : sv = s.vals c a b d) (hb : 0 ≤ s.pc ∧ s.pc ≤ 1000000) (hA : 0 ≤ i.a ∧ i.a ≤ 7) (id : Int) :
    Ret Tryz.prog 44 #[ptr pb, vi id] w (fun r w' => r = .agg ⟨(s.set i id).vals c a b d⟩ ∧ Keep w w' No) := by
  obtain ⟨o1, o2, o3, o4⟩ := h.one4 hsv
  have h8 : s.next.regs.length = 8 := h.sy.1
  refine ok44 _ _ _ _ ?_
  unfold sh44
  refine M.new_i (l := zSy) (fun w1 b1 k1 s1 => ?_)
  have h1 := h.keepN k1
  refine M.call_i (next37_ret h1 hsv hb) ?_; rintro v w2 ⟨rfl, k2⟩
  have b1 := b1.keep k2 (fun h => h)
  have q2 := k2.size
  refine M.new_i (l := zSy) (fun w3 b3 k3 s3 => ?_)
  have b1 := b1.keep k3 (fun h => h)
  have k03 := (k1.trans k2 (fun _ _ h => h)).trans k3 (fun _ _ h => h)
  refine M.storeAll_i b3 (vals_len h8) rfl (vals_one o1 o2 o3 o4) (fun w4 b4 k4 s4 => ?_)
  have hne : w.heap.size ≠ w2.heap.size := by omega
  have b1 := b1.keep k4 hne
  have k04 : Keep w w4 No := k03.trans k4 (fun x hx e => by have e : x = w2.heap.size := e; omega)
  have hcA := (h.keepN k04).cA
  (repeat (first|refine jb ?_|refine jc ?_|refine jM (by assumption) ?_))
  refine M.arr8_i hA.1 (by omega) ?_
  rw [Nat.zero_add]
  refine M.store_i b4 (by rw [vals_len h8]; omega) rfl (fun w5 b5 k5 s5 => ?_)
  have b1 := b1.keep k5 hne
  have k05 : Keep w w5 No := k04.trans k5 (fun x hx e => by have e : x = w2.heap.size := e; omega)
  rw [vals_set h8 (by omega)] at b5
  have h8' : (s.set i id).regs.length = 8 := by unfold Sy.set; simp; exact h8
  refine M.loadAll_i b5 (vals_len h8') ?_
  exact fin_v b1 rfl (vals_len h8') (vals_one o1 o2 o3 o4) (fun w9 k9 => ⟨rfl, k05.trans k9 (fun x hx e => by have e : x = w.heap.size := e; omega)⟩)
theorem call37_ret {a' b' : Value} {v : SDv} {D : Nat → Prop} (h : Stp Z w F p pb N most s sv i inputs mw ov outs e) (hsv : sv = s.vals c a b d) (hb : 0 ≤ s.pc ∧ s.pc ≤ 1000000) (hcl : 0 ≤ s.calls ∧ s.calls ≤ 1000000) (hv : SDvO w D a' b' v) :
    Ret Tryz.prog 98 #[ptr pb, .agg ⟨[a', b', vi v.ep]⟩] w (fun r w' => r = .agg ⟨(s.call v).vals c a' b' d⟩ ∧ Keep w w' No) := by
  obtain ⟨o1, o2, o3, o4⟩ := h.one4 hsv
  have p2 : a'.oneCell' = true := LV.one hv.1
  have p3 : b'.oneCell' = true := LN.one hv.2
  have h8 := h.sy.1
  refine ok98 _ _ _ _ ?_
  unfold sh98
  refine M.new_i (l := [a', b', vi v.ep]) (fun w0 b0 k0 s0 => ?_)
  refine M.new_i (l := zSy) (fun w1 b1 k1 s1 => ?_)
  have b0 := b0.keep k1 (fun h => h)
  have h1 := (h.keepN k0).keepN k1
  refine M.call_i (next37_ret h1 hsv hb) ?_; rintro v0 w2 ⟨rfl, k2⟩
  have b0 := b0.keep k2 (fun h => h)
  have b1 := b1.keep k2 (fun h => h)
  have q2 := k2.size
  refine M.new_i (l := zSy) (fun w3 b3 k3 s3 => ?_)
  have b0 := b0.keep k3 (fun h => h)
  have b1 := b1.keep k3 (fun h => h)
  have k03 := ((k0.trans k1 (fun _ _ h => h)).trans k2 (fun _ _ h => h)).trans k3 (fun _ _ h => h)
  obtain ⟨regs, cells, pc, steps, calls, en, code, value, ⟨disk, pend, ep⟩, conds⟩ := s
  obtain ⟨r0, r1, r2, r3, r4, r5, r6, r7, rfl⟩ := eight h8
  have hcl : 0 ≤ calls ∧ calls ≤ 1000000 := hcl
  refine M.storeAll_i b3 rfl rfl (vals_one o1 o2 o3 o4) (fun w4 b4 k4 s4 => ?_)
  have hne : w0.heap.size ≠ w2.heap.size := by omega
  have hne0 : w.heap.size ≠ w2.heap.size := by omega
  have b0 := b0.keep k4 hne0
  have b1 := b1.keep k4 hne
  have k04 : Keep w w4 No := k03.trans k4 (fun x hx e => by have e : x = w2.heap.size := e; omega)
  have b4 : Blk w4 w2.heap.size [vi r0, vi r1, vi r2, vi r3, vi r4, vi r5, vi r6, vi r7, c, vi (pc + 1), vi steps, vi calls, vi en, vi code, vi value, a, b, vi ep, d] := b4
  refine M.loadAll_i b0 rfl ?_
  (repeat (refine jc ?_))
  refine M.storePart_i b4 rfl (by simp) (by
    simp only [List.mem_cons, List.not_mem_nil, or_false, forall_eq_or_imp, forall_eq]
    exact ⟨p2, p3, rfl⟩) (fun w5 b5 k5 s5 => ?_)
  have b5 : Blk w5 w2.heap.size [vi r0, vi r1, vi r2, vi r3, vi r4, vi r5, vi r6, vi r7, c, vi (pc + 1), vi steps, vi calls, vi en, vi code, vi value, a', b', vi v.ep, d] := b5
  have b1 := b1.keep k5 hne
  have k05 : Keep w w5 No := k04.trans k5 (fun x hx e => by have e : x = w2.heap.size := e; omega)
  (repeat (first|refine jc ?_|refine jK ?_|refine jN (by assumption) rfl ?_))
  refine M.store_i b5 (by simp) rfl (fun w6 b6 k6 s6 => ?_)
  have b1 := b1.keep k6 hne
  have k06 : Keep w w6 No := k05.trans k6 (fun x hx e => by have e : x = w2.heap.size := e; omega)
  refine M.loadAll_i b6 rfl ?_
  exact fin_v b1 rfl rfl (vals_one (s := Sy.call ⟨[r0, r1, r2, r3, r4, r5, r6, r7], cells, pc, steps, calls, en, code, value, ⟨disk, pend, ep⟩, conds⟩ v) o1 p2 p3 o4) (fun w9 k9 => ⟨rfl, k06.trans k9 (fun x hx e => by have e : x = w0.heap.size := e; omega)⟩)
end
end Go.Proofs.YtanjlgafjgoaaaaGreat
