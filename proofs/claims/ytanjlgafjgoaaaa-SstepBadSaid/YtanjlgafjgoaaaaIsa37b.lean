import Derived.Test.YtanjlgafjgoaaaaIsa37
namespace Go.Proofs.Ytanjlgafjgoaaaa
open Go.Mw
set_option linter.unusedVariables false
set_option linter.unusedSimpArgs false
set_option maxRecDepth 100000
attribute [local irreducible] M.val M.unit M.next M.pick M.new M.nilCheck M.load1 M.loadA M.store M.fieldAddr M.indexSl M.indexArr M.slice M.makeSlice M.buildSlice M.len M.lenS M.cap M.append M.extract M.conv M.not M.neg M.bin M.shift M.eqB M.eqNil M.scat M.call M.callv M.gd M.share M.cond M.loop M.draw pureW readW Ret
/-! breakwater/isa.Name: function 43 -/
def sh43 (x0 : Value) (R : Kt) (w : World) : Prop :=
  M.bin .lss x0 (Value.int IntKind.i64 1) (fun t4 w =>
  M.gd t4 false (fun k w => k x0 w) (fun t6 w =>
  M.gd t4 false (fun k w => M.bin .gtr t6 (Value.int IntKind.i64 15) k w) (fun t7 w =>
  M.pick t4 (Value.bool true) t7 (fun t8 w =>
  M.cond t8
  (R (Value.string { data := #[] }) w)
  (pureW Try.prog (Instr.build 105 #[(0, (Value.string { data := #[99, 111, 110, 115, 116] })), (1, (Value.string { data := #[109, 111, 118, 101] })), (2, (Value.string { data := #[98, 105, 110, 97, 114, 121] })), (3, (Value.string { data := #[117, 110, 97, 114, 121] })), (4, (Value.string { data := #[106, 117, 109, 112] })), (5, (Value.string { data := #[98, 114, 97, 110, 99, 104] })), (6, (Value.string { data := #[108, 111, 97, 100] })), (7, (Value.string { data := #[115, 116, 111, 114, 101] })), (8, (Value.string { data := #[105, 110, 112, 117, 116] })), (9, (Value.string { data := #[114, 101, 97, 100] })), (10, (Value.string { data := #[119, 114, 105, 116, 101] })), (11, (Value.string { data := #[102, 108, 117, 115, 104] })), (12, (Value.string { data := #[98, 97, 114, 114, 105, 101, 114] })), (13, (Value.string { data := #[104, 97, 108, 116] })), (14, (Value.string { data := #[116, 114, 97, 112] }))]) (fun t9 w =>
  M.bin .sub x0 (Value.int IntKind.i64 1) (fun t11 w =>
  pureW Try.prog (Instr.index 105 t9 t11) (fun t12 w =>
  R t12 w) w) w) w)) w) w) w) w
theorem ok43 (x0 : Value) (R : Kt) (w : World) (h : sh43 x0 R w) : Ret Try.prog 43 #[x0] w R :=
  ret_mk <| calls_of_comp mixed (c := Try.f43.body.getD .skip) (args := [x0]) (rs := [(ResultVar.tmp 2)]) (Ann.seq Ann.text (Ann.seq (Ann.seq Ann.text (Ann.cond (Ann.seq Ann.text Ann.leaf) Ann.leaf)) (Ann.seq Ann.text Ann.leaf)))
    Try.func43 (by kernel_rfl) (by kernel_rfl)
    (Eq.mp (by kernel_rfl) h)
/-! breakwater/isa.Shape: function 44 -/
def sh44 (x0 : Value) (R : Kt) (w : World) : Prop :=
  M.share (fun K1 w =>
  M.share (fun K2 w =>
  M.bin .eql x0 (Value.int IntKind.i64 3) (fun t6 w =>
  M.cond t6
  (R (Value.string { data := #[65, 66, 67, 73] }) w)
  (M.bin .eql x0 (Value.int IntKind.i64 4) (fun t8 w =>
  M.cond t8
  (R (Value.string { data := #[65, 66, 73] }) w)
  (M.share (fun K3 w =>
  M.bin .eql x0 (Value.int IntKind.i64 2) (fun t10 w =>
  M.cond t10
  (K3 [t10] w)
  (M.bin .eql x0 (Value.int IntKind.i64 7) (fun t11 w =>
  M.cond t11
  (K3 [t11] w)
  (M.bin .eql x0 (Value.int IntKind.i64 8) (fun t12 w =>
  M.cond t12
  (K3 [t12] w)
  (M.bin .eql x0 (Value.int IntKind.i64 10) (fun t13 w =>
  M.cond t13
  (K3 [t13] w)
  (M.bin .eql x0 (Value.int IntKind.i64 11) (fun t14 w =>
  K3 [t14] w) w)) w)) w)) w)) w) (fun s3 w => ∀ _ : List Value,
  M.cond (s3.getD 0 undef)
  (R (Value.string { data := #[65, 66] }) w)
  (M.bin .eql x0 (Value.int IntKind.i64 14) (fun t16 w =>
  M.cond t16
  (R (Value.string { data := #[65] }) w)
  (M.share (fun K4 w =>
  M.bin .eql x0 (Value.int IntKind.i64 1) (fun t18 w =>
  M.cond t18
  (K4 [t18] w)
  (M.bin .eql x0 (Value.int IntKind.i64 6) (fun t19 w =>
  M.cond t19
  (K4 [t19] w)
  (M.bin .eql x0 (Value.int IntKind.i64 9) (fun t20 w =>
  K4 [t20] w) w)) w)) w) (fun s4 w => ∀ _ : List Value,
  M.cond (s4.getD 0 undef)
  (K2 [(Value.string { data := #[65] })] w)
  (M.share (fun K5 w =>
  M.bin .eql x0 (Value.int IntKind.i64 5) (fun t22 w =>
  M.cond t22
  (K5 [t22] w)
  (M.bin .eql x0 (Value.int IntKind.i64 15) (fun t23 w =>
  K5 [t23] w) w)) w) (fun s5 w => ∀ _ : List Value,
  M.cond (s5.getD 0 undef)
  (K2 [(Value.string { data := #[] })] w)
  (K1 [(Value.string { data := #[] })] w)) w)) w)) w)) w)) w)) w) (fun s2 w => ∀ _ : List Value,
  M.scat (s2.getD 0 undef) (Value.string { data := #[73] }) (fun t25 w =>
  K1 [t25] w) w) w) (fun s1 w => ∀ _ : List Value,
  R (s1.getD 0 undef) w) w
theorem ok44 (x0 : Value) (R : Kt) (w : World) (h : sh44 x0 R w) : Ret Try.prog 44 #[x0] w R :=
  ret_mk <| calls_of_comp mixed (c := Try.f44.body.getD .skip) (args := [x0]) (rs := [(ResultVar.tmp 2)]) (Ann.seq Ann.text (Ann.seq Ann.text (Ann.seq (Ann.seq Ann.text (Ann.jblock [3] [2, 5, 6, 7, 8, 9, 10, 11, 12, 13, 14, 15, 16, 17, 18, 19, 20, 21, 22, 23, 24, 25] (Ann.seq (Ann.jblock [3] [2, 5, 6, 7, 8, 9, 10, 11, 12, 13, 14, 15, 16, 17, 18, 19, 20, 21, 22, 23] (Ann.seq (Ann.block (Ann.seq (Ann.block (Ann.seq (Ann.block (Ann.seq (Ann.block (Ann.seq (Ann.block (Ann.seq (Ann.seq (Ann.seq Ann.text (Ann.cond Ann.leaf Ann.leaf)) (Ann.seq (Ann.seq Ann.text (Ann.cond Ann.leaf Ann.leaf)) (Ann.seq (Ann.join [9] [10, 11, 12, 13, 14] (Ann.seq Ann.text (Ann.cond Ann.leaf (Ann.seq Ann.text (Ann.cond Ann.leaf (Ann.seq Ann.text (Ann.cond Ann.leaf (Ann.seq Ann.text (Ann.cond Ann.leaf Ann.text)))))))) (Ann.cond Ann.leaf Ann.leaf)) (Ann.seq (Ann.seq Ann.text (Ann.cond Ann.leaf Ann.leaf)) (Ann.seq (Ann.join [17] [18, 19, 20] (Ann.seq Ann.text (Ann.cond Ann.leaf (Ann.seq Ann.text (Ann.cond Ann.leaf Ann.text)))) (Ann.cond Ann.leaf Ann.leaf)) (Ann.join [21] [22, 23] (Ann.seq Ann.text (Ann.cond Ann.leaf Ann.text)) (Ann.cond Ann.leaf Ann.leaf))))))) Ann.leaf)) (Ann.seq (Ann.seq Ann.text Ann.leaf) Ann.leaf))) (Ann.seq (Ann.seq Ann.text Ann.leaf) Ann.leaf))) (Ann.seq (Ann.seq Ann.text Ann.leaf) Ann.leaf))) (Ann.seq (Ann.seq Ann.text Ann.leaf) Ann.leaf))) Ann.text)) (Ann.seq Ann.text Ann.leaf)))) (Ann.seq Ann.text Ann.leaf))))
    Try.func44 (by kernel_rfl) (by kernel_rfl)
    (Eq.mp (by kernel_rfl) h)
/-! breakwater/isa.fields: function 24 -/
def sh24 (x0 : Value) (R : Kt) (w : World) : Prop :=
  M.new 51 (Value.cells x0) (fun t1 w =>
  M.fieldAddr 0 t1 (fun t7 w =>
  M.load1 t7 (fun t8 w =>
  M.call Try.prog 43 #[t8] (fun t9 w =>
  M.val Try.prog (do eqGuard .eql 9 (Operand.tmp 9) (Operand.const (Value.string { data := #[] })) t9 (Value.string { data := #[] }); binOp .eql 9 t9 (Value.string { data := #[] })) (fun t10 w =>
  M.cond t10
  (R (Value.int IntKind.i64 3) w)
  (M.fieldAddr 0 t1 (fun t11 w =>
  M.load1 t11 (fun t12 w =>
  M.call Try.prog 44 #[t12] (fun t13 w =>
  M.fieldAddr 1 t1 (fun t14 w =>
  M.load1 t14 (fun t15 w =>
  pureW Try.prog (Instr.build 87 #[(0, (Value.string { data := #[65] })), (1, t15)]) (fun t16 w =>
  M.fieldAddr 2 t1 (fun t17 w =>
  M.load1 t17 (fun t18 w =>
  pureW Try.prog (Instr.build 87 #[(0, (Value.string { data := #[66] })), (1, t18)]) (fun t19 w =>
  M.fieldAddr 3 t1 (fun t20 w =>
  M.load1 t20 (fun t21 w =>
  pureW Try.prog (Instr.build 87 #[(0, (Value.string { data := #[67] })), (1, t21)]) (fun t22 w =>
  pureW Try.prog (Instr.build 88 #[(0, t16), (1, t19), (2, t22)]) (fun t23 w =>
  M.loop [(Value.int IntKind.i64 0), (Value.int IntKind.i64 0)] (fun s1 K1 w => ∀ _ : List Value,
  M.bin .lss (s1.getD 1 undef) (Value.int IntKind.i64 3) (fun t25 w =>
  M.cond t25
  (pureW Try.prog (Instr.index 88 t23 (s1.getD 1 undef)) (fun t26 w =>
  M.new 87 #[.string ByteArray.empty, .int .i64 0] (fun t6 w =>
  M.store 2 t6 t26 (fun _ w =>
  M.share (fun K2 w =>
  M.fieldAddr 0 t6 (fun t29 w =>
  M.load1 t29 (fun t30 w =>
  M.call Try.prog 45 #[t13, t30] (fun t31 w =>
  M.not t31 (fun t32 w =>
  M.cond t32
  (M.fieldAddr 1 t6 (fun t33 w =>
  M.load1 t33 (fun t34 w =>
  M.bin .neq t34 (Value.int IntKind.i64 0) (fun t35 w =>
  M.cond t35
  (R (Value.int IntKind.i64 5) w)
  (K2 [(s1.getD 0 undef)] w)) w) w) w)
  (M.fieldAddr 1 t6 (fun t37 w =>
  M.load1 t37 (fun t38 w =>
  M.bin .lss t38 (Value.int IntKind.i64 0) (fun t39 w =>
  M.gd t39 false (fun k w => M.fieldAddr 1 t6 k w) (fun t41 w =>
  M.gd t39 false (fun k w => M.load1 t41 k w) (fun t42 w =>
  M.gd t39 false (fun k w => M.bin .geq t42 (Value.int IntKind.i64 8) k w) (fun t43 w =>
  M.pick t39 (Value.bool true) t43 (fun t44 w =>
  M.cond t44
  (K2 [(Value.int IntKind.i64 14)] w)
  (K2 [(s1.getD 0 undef)] w)) w) w) w) w) w) w) w)) w) w) w) w) (fun s2 w => ∀ _ : List Value,
  M.bin .add (s1.getD 1 undef) (Value.int IntKind.i64 1) (fun t45 w =>
  K1 [(s2.getD 0 undef), t45] w) w) w) w) w) w)
  (M.call Try.prog 45 #[t13, (Value.string { data := #[73] })] (fun t47 w =>
  M.not t47 (fun t48 w =>
  M.gd t48 true (fun k w => M.fieldAddr 4 t1 k w) (fun t50 w =>
  M.gd t48 true (fun k w => M.load1 t50 k w) (fun t51 w =>
  M.gd t48 true (fun k w => M.bin .neq t51 (Value.int IntKind.u64 0) k w) (fun t52 w =>
  M.pick t48 t52 (Value.bool false) (fun t53 w =>
  M.cond t53
  (R (Value.int IntKind.i64 5) w)
  (R (s1.getD 0 undef) w)) w) w) w) w) w) w)) w) w) w) w) w) w) w) w) w) w) w) w) w) w) w)) w) w) w) w) w
theorem ok24 (x0 : Value) (R : Kt) (w : World) (h : sh24 x0 R w) : Ret Try.prog 24 #[x0] w R :=
  ret_mk <| calls_of_comp mixed (c := Try.f24.body.getD .skip) (args := [x0]) (rs := [(ResultVar.tmp 2)]) (Ann.seq Ann.text (Ann.seq (Ann.seq Ann.text (Ann.cond (Ann.seq Ann.text Ann.leaf) Ann.leaf)) (Ann.seq Ann.text (Ann.seq Ann.text (Ann.seq (Ann.seq Ann.text (Ann.block (Ann.loop [4, 24] [2, 6, 25, 26, 27, 28, 29, 30, 31, 32, 33, 34, 35, 36, 37, 38, 39, 40, 41, 42, 43, 44, 45] (Ann.seq Ann.text (Ann.seq (Ann.cond Ann.leaf Ann.leaf) (Ann.seq (Ann.block (Ann.seq Ann.text (Ann.jblock [4] [2, 27, 28, 29, 30, 31, 32, 33, 34, 35, 36, 37, 38, 39, 40, 41, 42, 43, 44] (Ann.seq Ann.text (Ann.cond (Ann.seq Ann.text (Ann.cond (Ann.seq Ann.text Ann.leaf) Ann.leaf)) (Ann.seq Ann.text (Ann.cond Ann.text Ann.leaf))))))) Ann.text)))))) (Ann.seq (Ann.seq Ann.text (Ann.cond (Ann.seq Ann.text Ann.leaf) Ann.leaf)) (Ann.seq Ann.text Ann.leaf)))))))
    Try.func24 (by kernel_rfl) (by kernel_rfl)
    (Eq.mp (by kernel_rfl) h)
/-! breakwater/isa.Check: function 16 -/
def sh16 (x0 x1 x2 : Value) (R : Kt) (w : World) : Prop :=
  M.new 51 (Value.cells x0) (fun t3 w =>
  M.loadA 5 t3 (fun t8 w =>
  M.call Try.prog 24 #[t8] (fun t9 w =>
  M.bin .neq t9 (Value.int IntKind.i64 0) (fun t11 w =>
  M.cond t11
  (R t9 w)
  (M.fieldAddr 0 t3 (fun t13 w =>
  M.load1 t13 (fun t14 w =>
  M.share (fun K1 w =>
  M.bin .eql t14 (Value.int IntKind.i64 3) (fun t16 w =>
  M.cond t16
  (M.fieldAddr 4 t3 (fun t17 w =>
  M.load1 t17 (fun t18 w =>
  M.bin .lss t18 (Value.int IntKind.u64 1) (fun t19 w =>
  M.gd t19 false (fun k w => M.fieldAddr 4 t3 k w) (fun t21 w =>
  M.gd t19 false (fun k w => M.load1 t21 k w) (fun t22 w =>
  M.gd t19 false (fun k w => M.bin .gtr t22 (Value.int IntKind.u64 14) k w) (fun t23 w =>
  M.pick t19 (Value.bool true) t23 (fun t24 w =>
  M.cond t24
  (R (Value.int IntKind.i64 3) w)
  (K1 [] w)) w) w) w) w) w) w) w)
  (M.bin .eql t14 (Value.int IntKind.i64 4) (fun t26 w =>
  M.cond t26
  (M.fieldAddr 4 t3 (fun t27 w =>
  M.load1 t27 (fun t28 w =>
  M.bin .neq t28 (Value.int IntKind.u64 15) (fun t29 w =>
  M.gd t29 true (fun k w => M.fieldAddr 4 t3 k w) (fun t31 w =>
  M.gd t29 true (fun k w => M.load1 t31 k w) (fun t32 w =>
  M.gd t29 true (fun k w => M.bin .neq t32 (Value.int IntKind.u64 16) k w) (fun t33 w =>
  M.pick t29 t33 (Value.bool false) (fun t34 w =>
  M.cond t34
  (R (Value.int IntKind.i64 3) w)
  (K1 [] w)) w) w) w) w) w) w) w)
  (M.share (fun K2 w =>
  M.bin .eql t14 (Value.int IntKind.i64 5) (fun t36 w =>
  M.cond t36
  (K2 [t36] w)
  (M.bin .eql t14 (Value.int IntKind.i64 6) (fun t37 w =>
  K2 [t37] w) w)) w) (fun s2 w => ∀ _ : List Value,
  M.cond (s2.getD 0 undef)
  (M.bin .lss x2 (Value.int IntKind.i64 0) (fun t39 w =>
  M.gd t39 false (fun k w => M.fieldAddr 4 t3 k w) (fun t41 w =>
  M.gd t39 false (fun k w => M.load1 t41 k w) (fun t42 w =>
  M.gd t39 false (fun k w => k x2 w) (fun t43 w =>
  M.gd t39 false (fun k w => M.conv .u64 t43 k w) (fun t44 w =>
  M.gd t39 false (fun k w => M.bin .geq t42 t44 k w) (fun t45 w =>
  M.pick t39 (Value.bool true) t45 (fun t46 w =>
  M.cond t46
  (R (Value.int IntKind.i64 15) w)
  (K1 [] w)) w) w) w) w) w) w) w)
  (M.bin .eql t14 (Value.int IntKind.i64 9) (fun t48 w =>
  M.cond t48
  (M.bin .neq x1 (Value.int IntKind.i64 0) (fun t50 w =>
  M.cond t50
  (R (Value.int IntKind.i64 16) w)
  (M.fieldAddr 4 t3 (fun t51 w =>
  M.load1 t51 (fun t52 w =>
  M.bin .geq t52 (Value.int IntKind.u64 4) (fun t53 w =>
  M.cond t53
  (R (Value.int IntKind.i64 4) w)
  (K1 [] w)) w) w) w)) w)
  (M.bin .eql t14 (Value.int IntKind.i64 15) (fun t55 w =>
  M.cond t55
  (M.fieldAddr 4 t3 (fun t56 w =>
  M.load1 t56 (fun t57 w =>
  M.bin .eql t57 (Value.int IntKind.u64 0) (fun t58 w =>
  M.gd t58 false (fun k w => M.fieldAddr 4 t3 k w) (fun t60 w =>
  M.gd t58 false (fun k w => M.load1 t60 k w) (fun t61 w =>
  M.gd t58 false (fun k w => M.bin .gtr t61 (Value.int IntKind.u64 255) k w) (fun t62 w =>
  M.pick t58 (Value.bool true) t62 (fun t63 w =>
  M.cond t63
  (R (Value.int IntKind.i64 4) w)
  (K1 [] w)) w) w) w) w) w) w) w)
  (K1 [] w)) w)) w)) w)) w)) w) (fun s1 w => ∀ _ : List Value,
  R (Value.int IntKind.i64 0) w) w) w) w)) w) w) w) w
theorem ok16 (x0 x1 x2 : Value) (R : Kt) (w : World) (h : sh16 x0 x1 x2 R w) : Ret Try.prog 16 #[x0, x1, x2] w R :=
  ret_mk <| calls_of_comp mixed (c := Try.f16.body.getD .skip) (args := [x0, x1, x2]) (rs := [(ResultVar.tmp 6)]) (Ann.seq Ann.text (Ann.seq (Ann.seq Ann.text (Ann.seq Ann.text (Ann.cond (Ann.seq Ann.text Ann.leaf) Ann.leaf))) (Ann.seq (Ann.seq Ann.text (Ann.jblock [] [6, 15, 16, 17, 18, 19, 20, 21, 22, 23, 24, 25, 26, 27, 28, 29, 30, 31, 32, 33, 34, 35, 36, 37, 38, 39, 40, 41, 42, 43, 44, 45, 46, 47, 48, 49, 50, 51, 52, 53, 54, 55, 56, 57, 58, 59, 60, 61, 62, 63] (Ann.seq Ann.text (Ann.cond (Ann.seq Ann.text (Ann.cond (Ann.seq Ann.text Ann.leaf) Ann.leaf)) (Ann.seq Ann.text (Ann.cond (Ann.seq Ann.text (Ann.cond (Ann.seq Ann.text Ann.leaf) Ann.leaf)) (Ann.join [35] [36, 37] (Ann.seq Ann.text (Ann.cond Ann.leaf Ann.text)) (Ann.cond (Ann.seq Ann.text (Ann.cond (Ann.seq Ann.text Ann.leaf) Ann.leaf)) (Ann.seq Ann.text (Ann.cond (Ann.seq (Ann.seq Ann.text (Ann.cond (Ann.seq Ann.text Ann.leaf) Ann.leaf)) (Ann.seq Ann.text (Ann.cond (Ann.seq Ann.text Ann.leaf) Ann.leaf))) (Ann.seq Ann.text (Ann.cond (Ann.seq Ann.text (Ann.cond (Ann.seq Ann.text Ann.leaf) Ann.leaf)) Ann.leaf)))))))))))) (Ann.seq Ann.text Ann.leaf))))
    Try.func16 (by kernel_rfl) (by kernel_rfl)
    (Eq.mp (by kernel_rfl) h)

def shpB (op : Int) : Tx := (if hasA op then [65] else []) ++ (if hasB op then [66] else []) ++ (if hasC op then [67] else []) ++ (if hasI op then [73] else [])
theorem name37_ret (op : Int) (w : World) : Ret Try.prog 43 #[vi op] w (fun r w' => ∃ s, r = xs8 s ∧ (s = [] ↔ ¬ (1 ≤ op ∧ op ≤ 15)) ∧ w' = w) := by
  refine ok43 _ _ _ ?_
  unfold sh43
  by_cases h1 : op < 1
  · (repeat (first|refine ja ?_|refine jb ?_|refine jc ?_|refine jd ?_|refine je ?_|refine jf ?_|refine jg ?_|refine jh ?_|refine ji ?_|refine jj ?_|refine jk ?_|refine jl ?_|refine jm ?_|refine jn ?_|refine jo ?_|refine jp ?_|refine jq ?_|refine jr ?_|refine js ?_|refine jt ?_|refine ju ?_|refine jv ?_|refine jw ?_|refine jx ?_|refine jy ?_|refine jz ?_|refine jA ?_|refine jB ?_|refine jC ?_|refine jD ?_|refine jE ?_|refine jF ?_|refine jG ?_|refine jH ?_|refine jI ?_|refine jJ ?_|refine jK ?_|refine jL ?_|refine jM (by assumption) ?_|refine jN (by assumption) rfl ?_|refine jO (by assumption) ?_|refine jP (by assumption) rfl ?_|refine jQ ?_|refine jR ?_|refine jS ?_|refine jT ?_|refine jU (by assumption) rfl ?_))
    exact ⟨[], rfl, by simp; omega, rfl⟩
  by_cases h2 : 15 < op
  · (repeat (first|refine ja ?_|refine jb ?_|refine jc ?_|refine jd ?_|refine je ?_|refine jf ?_|refine jg ?_|refine jh ?_|refine ji ?_|refine jj ?_|refine jk ?_|refine jl ?_|refine jm ?_|refine jn ?_|refine jo ?_|refine jp ?_|refine jq ?_|refine jr ?_|refine js ?_|refine jt ?_|refine ju ?_|refine jv ?_|refine jw ?_|refine jx ?_|refine jy ?_|refine jz ?_|refine jA ?_|refine jB ?_|refine jC ?_|refine jD ?_|refine jE ?_|refine jF ?_|refine jG ?_|refine jH ?_|refine jI ?_|refine jJ ?_|refine jK ?_|refine jL ?_|refine jM (by assumption) ?_|refine jN (by assumption) rfl ?_|refine jO (by assumption) ?_|refine jP (by assumption) rfl ?_|refine jQ ?_|refine jR ?_|refine jS ?_|refine jT ?_|refine jU (by assumption) rfl ?_))
    exact ⟨[], rfl, by simp; omega, rfl⟩
  (repeat (first|refine ja ?_|refine jb ?_|refine jc ?_|refine jd ?_|refine je ?_|refine jf ?_|refine jg ?_|refine jh ?_|refine ji ?_|refine jj ?_|refine jk ?_|refine jl ?_|refine jm ?_|refine jn ?_|refine jo ?_|refine jp ?_|refine jq ?_|refine jr ?_|refine js ?_|refine jt ?_|refine ju ?_|refine jv ?_|refine jw ?_|refine jx ?_|refine jy ?_|refine jz ?_|refine jA ?_|refine jB ?_|refine jC ?_|refine jD ?_|refine jE ?_|refine jF ?_|refine jG ?_|refine jH ?_|refine jI ?_|refine jJ ?_|refine jK ?_|refine jL ?_|refine jM (by assumption) ?_|refine jN (by assumption) rfl ?_|refine jO (by assumption) ?_|refine jP (by assumption) rfl ?_|refine jQ ?_|refine jR ?_|refine jS ?_|refine jT ?_|refine jU (by assumption) rfl ?_))
  have nm : List Tx := [([99, 111, 110, 115, 116] : List UInt8), ([109, 111, 118, 101] : List UInt8), ([98, 105, 110, 97, 114, 121] : List UInt8), ([117, 110, 97, 114, 121] : List UInt8), ([106, 117, 109, 112] : List UInt8), ([98, 114, 97, 110, 99, 104] : List UInt8), ([108, 111, 97, 100] : List UInt8), ([115, 116, 111, 114, 101] : List UInt8), ([105, 110, 112, 117, 116] : List UInt8), ([114, 101, 97, 100] : List UInt8), ([119, 114, 105, 116, 101] : List UInt8), ([102, 108, 117, 115, 104] : List UInt8), ([98, 97, 114, 114, 105, 101, 114] : List UInt8), ([104, 97, 108, 116] : List UInt8), ([116, 114, 97, 112] : List UInt8)]
  clear nm
  have key : ∀ m : Fin 15, ∃ s : Tx, s ≠ [] ∧ (Instr.index 105 (.agg #[xs8 ([99, 111, 110, 115, 116] : List UInt8), xs8 ([109, 111, 118, 101] : List UInt8), xs8 ([98, 105, 110, 97, 114, 121] : List UInt8), xs8 ([117, 110, 97, 114, 121] : List UInt8), xs8 ([106, 117, 109, 112] : List UInt8), xs8 ([98, 114, 97, 110, 99, 104] : List UInt8), xs8 ([108, 111, 97, 100] : List UInt8), xs8 ([115, 116, 111, 114, 101] : List UInt8), xs8 ([105, 110, 112, 117, 116] : List UInt8), xs8 ([114, 101, 97, 100] : List UInt8), xs8 ([119, 114, 105, 116, 101] : List UInt8), xs8 ([102, 108, 117, 115, 104] : List UInt8), xs8 ([98, 97, 114, 114, 105, 101, 114] : List UInt8), xs8 ([104, 97, 108, 116] : List UInt8), xs8 ([116, 114, 97, 112] : List UInt8)]) (vi (m.val : Int))).run Try.prog = fun w => .ok (xs8 s) w := by
    intro m
    match m with
    | ⟨0, _⟩ => exact ⟨([99, 111, 110, 115, 116] : List UInt8), by decide, rfl⟩
    | ⟨1, _⟩ => exact ⟨([109, 111, 118, 101] : List UInt8), by decide, rfl⟩
    | ⟨2, _⟩ => exact ⟨([98, 105, 110, 97, 114, 121] : List UInt8), by decide, rfl⟩
    | ⟨3, _⟩ => exact ⟨([117, 110, 97, 114, 121] : List UInt8), by decide, rfl⟩
    | ⟨4, _⟩ => exact ⟨([106, 117, 109, 112] : List UInt8), by decide, rfl⟩
    | ⟨5, _⟩ => exact ⟨([98, 114, 97, 110, 99, 104] : List UInt8), by decide, rfl⟩
    | ⟨6, _⟩ => exact ⟨([108, 111, 97, 100] : List UInt8), by decide, rfl⟩
    | ⟨7, _⟩ => exact ⟨([115, 116, 111, 114, 101] : List UInt8), by decide, rfl⟩
    | ⟨8, _⟩ => exact ⟨([105, 110, 112, 117, 116] : List UInt8), by decide, rfl⟩
    | ⟨9, _⟩ => exact ⟨([114, 101, 97, 100] : List UInt8), by decide, rfl⟩
    | ⟨10, _⟩ => exact ⟨([119, 114, 105, 116, 101] : List UInt8), by decide, rfl⟩
    | ⟨11, _⟩ => exact ⟨([102, 108, 117, 115, 104] : List UInt8), by decide, rfl⟩
    | ⟨12, _⟩ => exact ⟨([98, 97, 114, 114, 105, 101, 114] : List UInt8), by decide, rfl⟩
    | ⟨13, _⟩ => exact ⟨([104, 97, 108, 116] : List UInt8), by decide, rfl⟩
    | ⟨14, _⟩ => exact ⟨([116, 114, 97, 112] : List UInt8), by decide, rfl⟩
    | ⟨n + 15, h⟩ => exact absurd h (by omega)
  refine M.pure_i (.agg #[xs8 ([99, 111, 110, 115, 116] : List UInt8), xs8 ([109, 111, 118, 101] : List UInt8), xs8 ([98, 105, 110, 97, 114, 121] : List UInt8), xs8 ([117, 110, 97, 114, 121] : List UInt8), xs8 ([106, 117, 109, 112] : List UInt8), xs8 ([98, 114, 97, 110, 99, 104] : List UInt8), xs8 ([108, 111, 97, 100] : List UInt8), xs8 ([115, 116, 111, 114, 101] : List UInt8), xs8 ([105, 110, 112, 117, 116] : List UInt8), xs8 ([114, 101, 97, 100] : List UInt8), xs8 ([119, 114, 105, 116, 101] : List UInt8), xs8 ([102, 108, 117, 115, 104] : List UInt8), xs8 ([98, 97, 114, 114, 105, 101, 114] : List UInt8), xs8 ([104, 97, 108, 116] : List UInt8), xs8 ([116, 114, 97, 112] : List UInt8)]) (fun _ => by kernel_rfl) ?_
  (repeat (first|refine ja ?_|refine jb ?_|refine jc ?_|refine jd ?_|refine je ?_|refine jf ?_|refine jg ?_|refine jh ?_|refine ji ?_|refine jj ?_|refine jk ?_|refine jl ?_|refine jm ?_|refine jn ?_|refine jo ?_|refine jp ?_|refine jq ?_|refine jr ?_|refine js ?_|refine jt ?_|refine ju ?_|refine jv ?_|refine jw ?_|refine jx ?_|refine jy ?_|refine jz ?_|refine jA ?_|refine jB ?_|refine jC ?_|refine jD ?_|refine jE ?_|refine jF ?_|refine jG ?_|refine jH ?_|refine jI ?_|refine jJ ?_|refine jK ?_|refine jL ?_|refine jM (by assumption) ?_|refine jN (by assumption) rfl ?_|refine jO (by assumption) ?_|refine jP (by assumption) rfl ?_|refine jQ ?_|refine jR ?_|refine jS ?_|refine jT ?_|refine jU (by assumption) rfl ?_))
  obtain ⟨s, h3, h4⟩ := key ⟨(op - 1).toNat, by omega⟩
  refine M.pure_i (xs8 s) (fun w' => ?_) ⟨s, rfl, by constructor <;> intro h <;> first | exact absurd h h3 | exact absurd ⟨by omega, by omega⟩ h, rfl⟩
  have := congrFun h4 w'
  rw [show (((⟨(op - 1).toNat, by omega⟩ : Fin 15).val : Nat) : Int) = op - 1 by show (((op - 1).toNat : Nat) : Int) = op - 1; omega] at this
  exact this
theorem scat8_i {k : Kt} {w : World} {a b : Tx} (h : a.length + b.length ≤ 9223372036854775807) (hk : k (xs8 (a ++ b)) w) : M.scat (xs8 a) (xs8 b) k w := by
  have e : (⟨a.toArray⟩ : ByteArray) ++ ⟨b.toArray⟩ = ⟨(a ++ b).toArray⟩ := by
    apply ByteArray.ext
    simp [ByteArray.data_append]
  unfold M.scat
  exact ⟨by simpa [ByteArray.size] using h, by rw [e]; exact hk⟩
set_option maxHeartbeats 2000000 in
theorem shape_ret {op : Int} (h : 1 ≤ op ∧ op ≤ 15) (w : World) : Ret Try.prog 44 #[vi op] w (fun r w' => r = xs8 (shpB op) ∧ w' = w) := by
  have hc : op = 1 ∨ op = 2 ∨ op = 3 ∨ op = 4 ∨ op = 5 ∨ op = 6 ∨ op = 7 ∨ op = 8 ∨ op = 9 ∨ op = 10 ∨ op = 11 ∨ op = 12 ∨ op = 13 ∨ op = 14 ∨ op = 15 := by omega
  refine ok44 _ _ _ ?_
  unfold sh44
  rcases hc with rfl | rfl | rfl | rfl | rfl | rfl | rfl | rfl | rfl | rfl | rfl | rfl | rfl | rfl | rfl
  all_goals
    repeat (first | (first|refine ja ?_|refine jb ?_|refine jc ?_|refine jd ?_|refine je ?_|refine jf ?_|refine jg ?_|refine jh ?_|refine ji ?_|refine jj ?_|refine jk ?_|refine jl ?_|refine jm ?_|refine jn ?_|refine jo ?_|refine jp ?_|refine jq ?_|refine jr ?_|refine js ?_|refine jt ?_|refine ju ?_|refine jv ?_|refine jw ?_|refine jx ?_|refine jy ?_|refine jz ?_|refine jA ?_|refine jB ?_|refine jC ?_|refine jD ?_|refine jE ?_|refine jF ?_|refine jG ?_|refine jH ?_|refine jI ?_|refine jJ ?_|refine jK ?_|refine jL ?_|refine jM (by assumption) ?_|refine jN (by assumption) rfl ?_|refine jO (by assumption) ?_|refine jP (by assumption) rfl ?_|refine jQ ?_|refine jR ?_|refine jS ?_|refine jT ?_|refine jU (by assumption) rfl ?_) | refine M.share_i ?_ | intro _ | simp only [List.getD_cons_zero, List.getD_cons_succ] | refine scat8_i (a := ([65] : List UInt8)) (by decide) ?_ | refine scat8_i (a := []) (by decide) ?_)
    first | exact ⟨rfl, rfl⟩ | exact ⟨rfl, trivial⟩
theorem has_first (op : Int) : decide (0 ≤ firstIdx ⟨(shpB op).toArray⟩ 65) = hasA op ∧ decide (0 ≤ firstIdx ⟨(shpB op).toArray⟩ 66) = hasB op ∧ decide (0 ≤ firstIdx ⟨(shpB op).toArray⟩ 67) = hasC op ∧ decide (0 ≤ firstIdx ⟨(shpB op).toArray⟩ 73) = hasI op := by
  unfold shpB
  generalize hasA op = a
  generalize hasB op = b
  generalize hasC op = c
  generalize hasI op = i
  cases a <;> cases b <;> cases c <;> cases i <;> decide
theorem one_has {op : Int} : (shpB op = [65] → hasA op = true) ∧ (shpB op = [66] → hasB op = true) ∧ (shpB op = [67] → hasC op = true) ∧ (shpB op = [73] → hasI op = true) := by
  unfold shpB
  generalize hasA op = a
  generalize hasB op = b
  generalize hasC op = c
  generalize hasI op = i
  cases a <;> cases b <;> cases c <;> cases i <;> decide
def fldOf (i : Ins) (k : Nat) : Bool × Int := if k = 0 then (hasA i.op, i.a) else if k = 1 then (hasB i.op, i.b) else (hasC i.op, i.c)
theorem fldHas_ret (op : Int) (k : Nat) (hk : k < 3) (w : World) : Ret Try.prog 45 #[xs8 (shpB op), xs8 [UInt8.ofNat (65 + k)]] w (fun r w' => r = .bool (if k = 0 then hasA op else if k = 1 then hasB op else hasC op) ∧ w' = w) := by
  obtain ⟨f1, f2, f3, _⟩ := has_first op
  obtain ⟨o1, o2, o3, _⟩ := one_has (op := op)
  refine (strHas_ret (shpB op) (UInt8.ofNat (65 + k)) w).mono ?_
  rintro r w' ⟨h | ⟨h1, h2⟩, rfl⟩
  · refine ⟨?_, rfl⟩
    match k, hk with
    | 0, _ => rw [h]; exact congrArg Value.bool f1
    | 1, _ => rw [h]; exact congrArg Value.bool f2
    | 2, _ => rw [h]; exact congrArg Value.bool f3
  · refine ⟨?_, rfl⟩
    match k, hk with
    | 0, _ => rw [h2]; exact congrArg Value.bool (o1 h1).symm
    | 1, _ => rw [h2]; exact congrArg Value.bool (o2 h1).symm
    | 2, _ => rw [h2]; exact congrArg Value.bool (o3 h1).symm
theorem fldI_ret (op : Int) (w : World) : Ret Try.prog 45 #[xs8 (shpB op), xs8 ([73] : List UInt8)] w (fun r w' => r = .bool (hasI op) ∧ w' = w) := by
  obtain ⟨_, _, _, f4⟩ := has_first op
  obtain ⟨_, _, _, o4⟩ := one_has (op := op)
  refine (strHas_ret (shpB op) 73 w).mono ?_
  rintro r w' ⟨h | ⟨h1, h2⟩, rfl⟩
  · exact ⟨by rw [h]; exact congrArg Value.bool f4, rfl⟩
  · exact ⟨by rw [h2]; exact congrArg Value.bool (o4 h1).symm, rfl⟩
theorem strOne (a : Tx) (i : Int) : ∀ v ∈ [xs8 a, vi i], v.oneCell' = true := by
  simp only [List.mem_cons, List.not_mem_nil, or_false, forall_eq_or_imp, forall_eq]; exact ⟨rfl, rfl⟩
set_option maxHeartbeats 2000000 in
theorem ifields_ret (i : Ins) (w : World) : Ret Try.prog 24 #[encI i] w (fun r w' => ∃ e, r = vi e ∧ (e = 0 ↔ ((1 ≤ i.op ∧ i.op ≤ 15) ∧ (∀ k, k < 3 → regOk (fldOf i k).1 (fldOf i k).2 = true) ∧ (hasI i.op = true ∨ i.imm.toNat = 0))) ∧ Keep w w' No) := by
  refine ok24 _ _ _ ?_
  unfold sh24
  refine M.new_i (l := i.cells) (fun w1 b1 k1 s1 => ?_)
  have b1 : Blk w1 w.heap.size [vi i.op, vi i.a, vi i.b, vi i.c, vw i.imm] := b1
  (repeat (first|refine ja ?_|refine jb ?_|refine jc ?_|refine jd ?_|refine je ?_|refine jf ?_|refine jg ?_|refine jh ?_|refine ji ?_|refine jj ?_|refine jk ?_|refine jl ?_|refine jm ?_|refine jn ?_|refine jo ?_|refine jp ?_|refine jq ?_|refine jr ?_|refine js ?_|refine jt ?_|refine ju ?_|refine jv ?_|refine jw ?_|refine jx ?_|refine jy ?_|refine jz ?_|refine jA ?_|refine jB ?_|refine jC ?_|refine jD ?_|refine jE ?_|refine jF ?_|refine jG ?_|refine jH ?_|refine jI ?_|refine jJ ?_|refine jK ?_|refine jL ?_|refine jM (by assumption) ?_|refine jN (by assumption) rfl ?_|refine jO (by assumption) ?_|refine jP (by assumption) rfl ?_|refine jQ ?_|refine jR ?_|refine jS ?_|refine jT ?_|refine jU (by assumption) rfl ?_))
  refine M.call_i (name37_ret i.op w1) ?_
  rintro _ w2 ⟨nm, rfl, hnm, rfl⟩
  refine M.seq8_i (a := nm) (b := []) ?_
  by_cases hop : 1 ≤ i.op ∧ i.op ≤ 15
  case neg =>
    rw [decide_eq_true (hnm.2 hop)]
    (repeat (first|refine ja ?_|refine jb ?_|refine jc ?_|refine jd ?_|refine je ?_|refine jf ?_|refine jg ?_|refine jh ?_|refine ji ?_|refine jj ?_|refine jk ?_|refine jl ?_|refine jm ?_|refine jn ?_|refine jo ?_|refine jp ?_|refine jq ?_|refine jr ?_|refine js ?_|refine jt ?_|refine ju ?_|refine jv ?_|refine jw ?_|refine jx ?_|refine jy ?_|refine jz ?_|refine jA ?_|refine jB ?_|refine jC ?_|refine jD ?_|refine jE ?_|refine jF ?_|refine jG ?_|refine jH ?_|refine jI ?_|refine jJ ?_|refine jK ?_|refine jL ?_|refine jM (by assumption) ?_|refine jN (by assumption) rfl ?_|refine jO (by assumption) ?_|refine jP (by assumption) rfl ?_|refine jQ ?_|refine jR ?_|refine jS ?_|refine jT ?_|refine jU (by assumption) rfl ?_))
    exact ⟨3, rfl, ⟨fun h => absurd h (by decide), fun h => absurd h.1 hop⟩, k1⟩
  rw [decide_eq_false (fun h => hnm.1 h hop)]
  (repeat (first|refine ja ?_|refine jb ?_|refine jc ?_|refine jd ?_|refine je ?_|refine jf ?_|refine jg ?_|refine jh ?_|refine ji ?_|refine jj ?_|refine jk ?_|refine jl ?_|refine jm ?_|refine jn ?_|refine jo ?_|refine jp ?_|refine jq ?_|refine jr ?_|refine js ?_|refine jt ?_|refine ju ?_|refine jv ?_|refine jw ?_|refine jx ?_|refine jy ?_|refine jz ?_|refine jA ?_|refine jB ?_|refine jC ?_|refine jD ?_|refine jE ?_|refine jF ?_|refine jG ?_|refine jH ?_|refine jI ?_|refine jJ ?_|refine jK ?_|refine jL ?_|refine jM (by assumption) ?_|refine jN (by assumption) rfl ?_|refine jO (by assumption) ?_|refine jP (by assumption) rfl ?_|refine jQ ?_|refine jR ?_|refine jS ?_|refine jT ?_|refine jU (by assumption) rfl ?_))
  refine M.call_i (shape_ret hop w2) ?_; rintro _ w3 ⟨rfl, rfl⟩
  (repeat (first|refine ja ?_|refine jb ?_|refine jc ?_|refine jd ?_|refine je ?_|refine jf ?_|refine jg ?_|refine jh ?_|refine ji ?_|refine jj ?_|refine jk ?_|refine jl ?_|refine jm ?_|refine jn ?_|refine jo ?_|refine jp ?_|refine jq ?_|refine jr ?_|refine js ?_|refine jt ?_|refine ju ?_|refine jv ?_|refine jw ?_|refine jx ?_|refine jy ?_|refine jz ?_|refine jA ?_|refine jB ?_|refine jC ?_|refine jD ?_|refine jE ?_|refine jF ?_|refine jG ?_|refine jH ?_|refine jI ?_|refine jJ ?_|refine jK ?_|refine jL ?_|refine jM (by assumption) ?_|refine jN (by assumption) rfl ?_|refine jO (by assumption) ?_|refine jP (by assumption) rfl ?_|refine jQ ?_|refine jR ?_|refine jS ?_|refine jT ?_|refine jU (by assumption) rfl ?_))
  refine M.pure_i (.agg ⟨[xs8 [65], vi i.a]⟩) (fun _ => by kernel_rfl) ?_
  (repeat (first|refine ja ?_|refine jb ?_|refine jc ?_|refine jd ?_|refine je ?_|refine jf ?_|refine jg ?_|refine jh ?_|refine ji ?_|refine jj ?_|refine jk ?_|refine jl ?_|refine jm ?_|refine jn ?_|refine jo ?_|refine jp ?_|refine jq ?_|refine jr ?_|refine js ?_|refine jt ?_|refine ju ?_|refine jv ?_|refine jw ?_|refine jx ?_|refine jy ?_|refine jz ?_|refine jA ?_|refine jB ?_|refine jC ?_|refine jD ?_|refine jE ?_|refine jF ?_|refine jG ?_|refine jH ?_|refine jI ?_|refine jJ ?_|refine jK ?_|refine jL ?_|refine jM (by assumption) ?_|refine jN (by assumption) rfl ?_|refine jO (by assumption) ?_|refine jP (by assumption) rfl ?_|refine jQ ?_|refine jR ?_|refine jS ?_|refine jT ?_|refine jU (by assumption) rfl ?_))
  refine M.pure_i (.agg ⟨[xs8 [66], vi i.b]⟩) (fun _ => by kernel_rfl) ?_
  (repeat (first|refine ja ?_|refine jb ?_|refine jc ?_|refine jd ?_|refine je ?_|refine jf ?_|refine jg ?_|refine jh ?_|refine ji ?_|refine jj ?_|refine jk ?_|refine jl ?_|refine jm ?_|refine jn ?_|refine jo ?_|refine jp ?_|refine jq ?_|refine jr ?_|refine js ?_|refine jt ?_|refine ju ?_|refine jv ?_|refine jw ?_|refine jx ?_|refine jy ?_|refine jz ?_|refine jA ?_|refine jB ?_|refine jC ?_|refine jD ?_|refine jE ?_|refine jF ?_|refine jG ?_|refine jH ?_|refine jI ?_|refine jJ ?_|refine jK ?_|refine jL ?_|refine jM (by assumption) ?_|refine jN (by assumption) rfl ?_|refine jO (by assumption) ?_|refine jP (by assumption) rfl ?_|refine jQ ?_|refine jR ?_|refine jS ?_|refine jT ?_|refine jU (by assumption) rfl ?_))
  refine M.pure_i (.agg ⟨[xs8 [67], vi i.c]⟩) (fun _ => by kernel_rfl) ?_
  refine M.pure_i (.agg ⟨[xs8 [65], vi i.a, xs8 [66], vi i.b, xs8 [67], vi i.c]⟩) (fun _ => by kernel_rfl) ?_
  have hcell : ∀ k, k < 3 → (([xs8 [65], vi i.a, xs8 [66], vi i.b, xs8 [67], vi i.c] : List Value).drop (k * 2)).take 2 = [xs8 [UInt8.ofNat (65 + k)], vi (fldOf i k).2] := fun k hk => by
    match k, hk with
    | 0, _ => rfl
    | 1, _ => rfl
    | 2, _ => rfl
  have hfst : ∀ k, (fldOf i k).1 = (if k = 0 then hasA i.op else if k = 1 then hasB i.op else hasC i.op) := fun k => by
    unfold fldOf
    split
    · rfl
    · split <;> rfl
  generalize ([xs8 [65], vi i.a, xs8 [66], vi i.b, xs8 [67], vi i.c] : List Value) = L at hcell
  refine M.loop_i (σ := Nat) (fun k vals w' => ∃ bad : Int, vals = [vi bad, vi k] ∧ k ≤ 3 ∧ (bad = 0 ↔ ∀ j, j < k → regOk (fldOf i j).1 (fldOf i j).2 = true) ∧ Blk w' w.heap.size [vi i.op, vi i.a, vi i.b, vi i.c, vw i.imm] ∧ Keep w w' No) (fun k => 3 - k) 0 ⟨0, rfl, by omega, by simp, b1, k1⟩ ?_
  rintro k vals w4 K ⟨bad, rfl, hk, hbad, b4, k4⟩ hK _
  simp only [List.getD_cons_zero, List.getD_cons_succ]
  by_cases hlt : k < 3
  · (repeat (first|refine ja ?_|refine jb ?_|refine jc ?_|refine jd ?_|refine je ?_|refine jf ?_|refine jg ?_|refine jh ?_|refine ji ?_|refine jj ?_|refine jk ?_|refine jl ?_|refine jm ?_|refine jn ?_|refine jo ?_|refine jp ?_|refine jq ?_|refine jr ?_|refine js ?_|refine jt ?_|refine ju ?_|refine jv ?_|refine jw ?_|refine jx ?_|refine jy ?_|refine jz ?_|refine jA ?_|refine jB ?_|refine jC ?_|refine jD ?_|refine jE ?_|refine jF ?_|refine jG ?_|refine jH ?_|refine jI ?_|refine jJ ?_|refine jK ?_|refine jL ?_|refine jM (by assumption) ?_|refine jN (by assumption) rfl ?_|refine jO (by assumption) ?_|refine jP (by assumption) rfl ?_|refine jQ ?_|refine jR ?_|refine jS ?_|refine jT ?_|refine jU (by assumption) rfl ?_))
    refine M.idxG_i (e := 87) (n := 3) (sz := 2) (by kernel_rfl) (fun _ => by kernel_rfl) (fun _ => by kernel_rfl) (by omega) (by omega) ?_
    rw [Int.toNat_natCast, hcell k hlt]
    refine M.new_i (l := [xs8 [], vi 0]) (fun w5 b5 k5 s5 => ?_)
    have b5' := b4.keep k5 (fun h => h)
    have hb4 := b4.lt
    refine M.storeAll_i (vs := [xs8 [UInt8.ofNat (65 + k)], vi (fldOf i k).2]) b5 rfl rfl (strOne _ _) (fun w6 b6 k6 s6 => ?_)
    have b6' := b5'.keep k6 (fun h => by have h : w.heap.size = w4.heap.size := h; omega)
    have k06 : Keep w w6 No := (k4.trans k5 (fun _ _ h => h)).trans k6 (fun b hb h => by have h : b = w4.heap.size := h; omega)
    have nextk : ∀ bad' : Int, (bad' = 0 ↔ bad = 0 ∧ regOk (fldOf i k).1 (fldOf i k).2 = true) → (bad' = 0 ↔ ∀ j, j < k + 1 → regOk (fldOf i j).1 (fldOf i j).2 = true) := fun bad' h => by
      rw [h, hbad]
      constructor
      · rintro ⟨h1, h2⟩ j hj
        by_cases e : j = k
        · subst e; exact h2
        · exact h1 j (by omega)
      · exact fun h => ⟨fun j hj => h j (by omega), h k (by omega)⟩
    refine M.share_j (fun vals w' => ∃ bad' : Int, vals = [vi bad'] ∧ (bad' = 0 ↔ bad = 0 ∧ regOk (fldOf i k).1 (fldOf i k).2 = true) ∧ w6 = w') ?_ ?_
    · rintro vals w' ⟨bad', rfl, hb', rfl⟩ _
      simp only [List.getD_cons_zero, List.getD_cons_succ]
      (repeat (first|refine ja ?_|refine jb ?_|refine jc ?_|refine jd ?_|refine je ?_|refine jf ?_|refine jg ?_|refine jh ?_|refine ji ?_|refine jj ?_|refine jk ?_|refine jl ?_|refine jm ?_|refine jn ?_|refine jo ?_|refine jp ?_|refine jq ?_|refine jr ?_|refine js ?_|refine jt ?_|refine ju ?_|refine jv ?_|refine jw ?_|refine jx ?_|refine jy ?_|refine jz ?_|refine jA ?_|refine jB ?_|refine jC ?_|refine jD ?_|refine jE ?_|refine jF ?_|refine jG ?_|refine jH ?_|refine jI ?_|refine jJ ?_|refine jK ?_|refine jL ?_|refine jM (by assumption) ?_|refine jN (by assumption) rfl ?_|refine jO (by assumption) ?_|refine jP (by assumption) rfl ?_|refine jQ ?_|refine jR ?_|refine jS ?_|refine jT ?_|refine jU (by assumption) rfl ?_))
      exact hK (k + 1) _ _ (by omega) ⟨bad', rfl, by omega, nextk bad' hb', b6', k06⟩
    · intro K2 hK2
      (repeat (first|refine ja ?_|refine jb ?_|refine jc ?_|refine jd ?_|refine je ?_|refine jf ?_|refine jg ?_|refine jh ?_|refine ji ?_|refine jj ?_|refine jk ?_|refine jl ?_|refine jm ?_|refine jn ?_|refine jo ?_|refine jp ?_|refine jq ?_|refine jr ?_|refine js ?_|refine jt ?_|refine ju ?_|refine jv ?_|refine jw ?_|refine jx ?_|refine jy ?_|refine jz ?_|refine jA ?_|refine jB ?_|refine jC ?_|refine jD ?_|refine jE ?_|refine jF ?_|refine jG ?_|refine jH ?_|refine jI ?_|refine jJ ?_|refine jK ?_|refine jL ?_|refine jM (by assumption) ?_|refine jN (by assumption) rfl ?_|refine jO (by assumption) ?_|refine jP (by assumption) rfl ?_|refine jQ ?_|refine jR ?_|refine jS ?_|refine jT ?_|refine jU (by assumption) rfl ?_))
      refine M.call_i (fldHas_ret i.op k hlt w6) ?_; rintro _ w7 ⟨rfl, rfl⟩
      rw [← hfst k]
      unfold regOk at hK2
      cases hh : (fldOf i k).1 with
      | false =>
        rw [hh] at hK2
        by_cases h0 : (fldOf i k).2 = 0
        · (repeat (first|refine ja ?_|refine jb ?_|refine jc ?_|refine jd ?_|refine je ?_|refine jf ?_|refine jg ?_|refine jh ?_|refine ji ?_|refine jj ?_|refine jk ?_|refine jl ?_|refine jm ?_|refine jn ?_|refine jo ?_|refine jp ?_|refine jq ?_|refine jr ?_|refine js ?_|refine jt ?_|refine ju ?_|refine jv ?_|refine jw ?_|refine jx ?_|refine jy ?_|refine jz ?_|refine jA ?_|refine jB ?_|refine jC ?_|refine jD ?_|refine jE ?_|refine jF ?_|refine jG ?_|refine jH ?_|refine jI ?_|refine jJ ?_|refine jK ?_|refine jL ?_|refine jM (by assumption) ?_|refine jN (by assumption) rfl ?_|refine jO (by assumption) ?_|refine jP (by assumption) rfl ?_|refine jQ ?_|refine jR ?_|refine jS ?_|refine jT ?_|refine jU (by assumption) rfl ?_))
          exact hK2 _ _ ⟨bad, rfl, by simp [h0], rfl⟩
        · (repeat (first|refine ja ?_|refine jb ?_|refine jc ?_|refine jd ?_|refine je ?_|refine jf ?_|refine jg ?_|refine jh ?_|refine ji ?_|refine jj ?_|refine jk ?_|refine jl ?_|refine jm ?_|refine jn ?_|refine jo ?_|refine jp ?_|refine jq ?_|refine jr ?_|refine js ?_|refine jt ?_|refine ju ?_|refine jv ?_|refine jw ?_|refine jx ?_|refine jy ?_|refine jz ?_|refine jA ?_|refine jB ?_|refine jC ?_|refine jD ?_|refine jE ?_|refine jF ?_|refine jG ?_|refine jH ?_|refine jI ?_|refine jJ ?_|refine jK ?_|refine jL ?_|refine jM (by assumption) ?_|refine jN (by assumption) rfl ?_|refine jO (by assumption) ?_|refine jP (by assumption) rfl ?_|refine jQ ?_|refine jR ?_|refine jS ?_|refine jT ?_|refine jU (by assumption) rfl ?_))
          refine ⟨5, rfl, ⟨fun h => absurd h (by decide), fun h => ?_⟩, k06⟩
          have := h.2.1 k hlt
          unfold regOk at this
          rw [hh] at this
          simp at this
          exact absurd this h0
      | true =>
        rw [hh] at hK2
        by_cases h0 : (fldOf i k).2 < 0
        · (repeat (first|refine ja ?_|refine jb ?_|refine jc ?_|refine jd ?_|refine je ?_|refine jf ?_|refine jg ?_|refine jh ?_|refine ji ?_|refine jj ?_|refine jk ?_|refine jl ?_|refine jm ?_|refine jn ?_|refine jo ?_|refine jp ?_|refine jq ?_|refine jr ?_|refine js ?_|refine jt ?_|refine ju ?_|refine jv ?_|refine jw ?_|refine jx ?_|refine jy ?_|refine jz ?_|refine jA ?_|refine jB ?_|refine jC ?_|refine jD ?_|refine jE ?_|refine jF ?_|refine jG ?_|refine jH ?_|refine jI ?_|refine jJ ?_|refine jK ?_|refine jL ?_|refine jM (by assumption) ?_|refine jN (by assumption) rfl ?_|refine jO (by assumption) ?_|refine jP (by assumption) rfl ?_|refine jQ ?_|refine jR ?_|refine jS ?_|refine jT ?_|refine jU (by assumption) rfl ?_))
          exact hK2 _ _ ⟨14, rfl, ⟨fun h => absurd h (by decide), fun h => by have := h.2; simp at this; omega⟩, rfl⟩
        · by_cases h8 : (fldOf i k).2 ≥ 8
          · (repeat (first|refine ja ?_|refine jb ?_|refine jc ?_|refine jd ?_|refine je ?_|refine jf ?_|refine jg ?_|refine jh ?_|refine ji ?_|refine jj ?_|refine jk ?_|refine jl ?_|refine jm ?_|refine jn ?_|refine jo ?_|refine jp ?_|refine jq ?_|refine jr ?_|refine js ?_|refine jt ?_|refine ju ?_|refine jv ?_|refine jw ?_|refine jx ?_|refine jy ?_|refine jz ?_|refine jA ?_|refine jB ?_|refine jC ?_|refine jD ?_|refine jE ?_|refine jF ?_|refine jG ?_|refine jH ?_|refine jI ?_|refine jJ ?_|refine jK ?_|refine jL ?_|refine jM (by assumption) ?_|refine jN (by assumption) rfl ?_|refine jO (by assumption) ?_|refine jP (by assumption) rfl ?_|refine jQ ?_|refine jR ?_|refine jS ?_|refine jT ?_|refine jU (by assumption) rfl ?_))
            exact hK2 _ _ ⟨14, rfl, ⟨fun h => absurd h (by decide), fun h => by have := h.2; simp at this; omega⟩, rfl⟩
          · (repeat (first|refine ja ?_|refine jb ?_|refine jc ?_|refine jd ?_|refine je ?_|refine jf ?_|refine jg ?_|refine jh ?_|refine ji ?_|refine jj ?_|refine jk ?_|refine jl ?_|refine jm ?_|refine jn ?_|refine jo ?_|refine jp ?_|refine jq ?_|refine jr ?_|refine js ?_|refine jt ?_|refine ju ?_|refine jv ?_|refine jw ?_|refine jx ?_|refine jy ?_|refine jz ?_|refine jA ?_|refine jB ?_|refine jC ?_|refine jD ?_|refine jE ?_|refine jF ?_|refine jG ?_|refine jH ?_|refine jI ?_|refine jJ ?_|refine jK ?_|refine jL ?_|refine jM (by assumption) ?_|refine jN (by assumption) rfl ?_|refine jO (by assumption) ?_|refine jP (by assumption) rfl ?_|refine jQ ?_|refine jR ?_|refine jS ?_|refine jT ?_|refine jU (by assumption) rfl ?_))
            exact hK2 _ _ ⟨bad, rfl, ⟨fun h => ⟨h, by simp; omega⟩, fun h => h.1⟩, rfl⟩
  · have e : k = 3 := by omega
    subst e
    (repeat (first|refine ja ?_|refine jb ?_|refine jc ?_|refine jd ?_|refine je ?_|refine jf ?_|refine jg ?_|refine jh ?_|refine ji ?_|refine jj ?_|refine jk ?_|refine jl ?_|refine jm ?_|refine jn ?_|refine jo ?_|refine jp ?_|refine jq ?_|refine jr ?_|refine js ?_|refine jt ?_|refine ju ?_|refine jv ?_|refine jw ?_|refine jx ?_|refine jy ?_|refine jz ?_|refine jA ?_|refine jB ?_|refine jC ?_|refine jD ?_|refine jE ?_|refine jF ?_|refine jG ?_|refine jH ?_|refine jI ?_|refine jJ ?_|refine jK ?_|refine jL ?_|refine jM (by assumption) ?_|refine jN (by assumption) rfl ?_|refine jO (by assumption) ?_|refine jP (by assumption) rfl ?_|refine jQ ?_|refine jR ?_|refine jS ?_|refine jT ?_|refine jU (by assumption) rfl ?_))
    refine M.call_i (fldI_ret i.op w4) ?_; rintro _ w5 ⟨rfl, rfl⟩
    cases hI : hasI i.op with
    | true =>
      (repeat (first|refine ja ?_|refine jb ?_|refine jc ?_|refine jd ?_|refine je ?_|refine jf ?_|refine jg ?_|refine jh ?_|refine ji ?_|refine jj ?_|refine jk ?_|refine jl ?_|refine jm ?_|refine jn ?_|refine jo ?_|refine jp ?_|refine jq ?_|refine jr ?_|refine js ?_|refine jt ?_|refine ju ?_|refine jv ?_|refine jw ?_|refine jx ?_|refine jy ?_|refine jz ?_|refine jA ?_|refine jB ?_|refine jC ?_|refine jD ?_|refine jE ?_|refine jF ?_|refine jG ?_|refine jH ?_|refine jI ?_|refine jJ ?_|refine jK ?_|refine jL ?_|refine jM (by assumption) ?_|refine jN (by assumption) rfl ?_|refine jO (by assumption) ?_|refine jP (by assumption) rfl ?_|refine jQ ?_|refine jR ?_|refine jS ?_|refine jT ?_|refine jU (by assumption) rfl ?_))
      exact ⟨bad, rfl, ⟨fun h => ⟨hop, hbad.1 h, .inl rfl⟩, fun h => hbad.2 h.2.1⟩, k4⟩
    | false =>
      by_cases h0 : i.imm.toNat = 0
      · (repeat (first|refine ja ?_|refine jb ?_|refine jc ?_|refine jd ?_|refine je ?_|refine jf ?_|refine jg ?_|refine jh ?_|refine ji ?_|refine jj ?_|refine jk ?_|refine jl ?_|refine jm ?_|refine jn ?_|refine jo ?_|refine jp ?_|refine jq ?_|refine jr ?_|refine js ?_|refine jt ?_|refine ju ?_|refine jv ?_|refine jw ?_|refine jx ?_|refine jy ?_|refine jz ?_|refine jA ?_|refine jB ?_|refine jC ?_|refine jD ?_|refine jE ?_|refine jF ?_|refine jG ?_|refine jH ?_|refine jI ?_|refine jJ ?_|refine jK ?_|refine jL ?_|refine jM (by assumption) ?_|refine jN (by assumption) rfl ?_|refine jO (by assumption) ?_|refine jP (by assumption) rfl ?_|refine jQ ?_|refine jR ?_|refine jS ?_|refine jT ?_|refine jU (by assumption) rfl ?_))
        exact ⟨bad, rfl, ⟨fun h => ⟨hop, hbad.1 h, .inr h0⟩, fun h => hbad.2 h.2.1⟩, k4⟩
      · (repeat (first|refine ja ?_|refine jb ?_|refine jc ?_|refine jd ?_|refine je ?_|refine jf ?_|refine jg ?_|refine jh ?_|refine ji ?_|refine jj ?_|refine jk ?_|refine jl ?_|refine jm ?_|refine jn ?_|refine jo ?_|refine jp ?_|refine jq ?_|refine jr ?_|refine js ?_|refine jt ?_|refine ju ?_|refine jv ?_|refine jw ?_|refine jx ?_|refine jy ?_|refine jz ?_|refine jA ?_|refine jB ?_|refine jC ?_|refine jD ?_|refine jE ?_|refine jF ?_|refine jG ?_|refine jH ?_|refine jI ?_|refine jJ ?_|refine jK ?_|refine jL ?_|refine jM (by assumption) ?_|refine jN (by assumption) rfl ?_|refine jO (by assumption) ?_|refine jP (by assumption) rfl ?_|refine jQ ?_|refine jR ?_|refine jS ?_|refine jT ?_|refine jU (by assumption) rfl ?_))
        exact ⟨5, rfl, ⟨fun h => absurd h (by decide), fun h => by rcases h.2.2 with h | h; cases h; exact absurd h h0⟩, k4⟩
end Go.Proofs.Ytanjlgafjgoaaaa
