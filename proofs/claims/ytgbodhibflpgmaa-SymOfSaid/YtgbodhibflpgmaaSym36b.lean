import Derived.Test.YtgbodhibflpgmaaSym36
import Derived.Test.YtgbodhibflpgmaaRef15
import Derived.ChangeKeysEq
import Derived.Laws.StructEq
import Derived.Tactics
namespace Go.Proofs.Ytgbodhibflpgmaa
open Go.Mw Go.Maps Go.MapKept
set_option linter.unusedVariables false
set_option linter.unusedSimpArgs false
set_option maxRecDepth 100000
attribute [local irreducible] M.val M.unit M.next M.pick M.new M.nilCheck M.load1 M.loadA M.store M.fieldAddr M.indexSl M.indexArr M.slice M.makeSlice M.buildSlice M.len M.lenS M.cap M.append M.extract M.conv M.not M.neg M.bin M.shift M.eqB M.eqNil M.call M.callv M.gd M.share M.cond M.loop M.draw pureW readW Ret
/-! breakwater/breakwaterref24.Words: function 48 -/
def sh48 (x0 x1 : Value) (R : Kt) (w : World) : Prop :=
  M.len x0 (fun t7 w =>
  M.len x1 (fun t9 w =>
  M.bin .neq t7 t9 (fun t10 w =>
  M.cond t10
  (R (Value.bool false) w)
  (M.loop [(Value.int IntKind.i64 0)] (fun s1 K1 w => ∀ _ : List Value,
  M.len x0 (fun t13 w =>
  M.bin .lss (s1.getD 0 undef) t13 (fun t14 w =>
  M.cond t14
  (M.draw (fun w =>
  M.indexSl 1 x0 (s1.getD 0 undef) (fun t19 w =>
  M.load1 t19 (fun t20 w =>
  M.indexSl 1 x1 (s1.getD 0 undef) (fun t23 w =>
  M.load1 t23 (fun t24 w =>
  M.bin .neq t20 t24 (fun t25 w =>
  M.cond t25
  (R (Value.bool false) w)
  (M.bin .add (s1.getD 0 undef) (Value.int IntKind.i64 1) (fun t16 w =>
  K1 [t16] w) w)) w) w) w) w) w) w)
  (R (Value.bool true) w)) w) w) w)) w) w) w
theorem ok48 (x0 x1 : Value) (R : Kt) (w : World) (h : sh48 x0 x1 R w) : Ret Try.prog 48 #[x0, x1] w R :=
  ret_mk <| calls_of_comp mixed (c := Try.f48.body.getD .skip) (args := [x0, x1]) (rs := [(ResultVar.tmp 4)]) (Ann.seq Ann.text (Ann.seq (Ann.seq Ann.text (Ann.cond (Ann.seq Ann.text Ann.leaf) Ann.leaf)) (Ann.seq (Ann.seq Ann.text (Ann.block (Ann.loop [5] [4, 11, 12, 13, 14, 15, 16, 17, 18, 19, 20, 21, 22, 23, 24, 25] (Ann.seq (Ann.seq Ann.text (Ann.cond Ann.leaf Ann.leaf)) (Ann.seq (Ann.block (Ann.seq (Ann.draw (Sch.take 0 (Sch.take 1 (Sch.take 2 (Sch.take 3 (Sch.take 4 (Sch.take 5 (Sch.take 6 (Sch.take 7 (Sch.take 8 Sch.done)))))))))) (Ann.cond (Ann.seq Ann.text Ann.leaf) Ann.leaf))) Ann.text))))) (Ann.seq Ann.text Ann.leaf))))
    Try.func48 (by kernel_rfl) (by kernel_rfl)
    (Eq.mp (by kernel_rfl) h)
/-! breakwater/breakwaterref31.Same: function 25 -/
def sh25 (x0 x1 : Value) (R : Kt) (w : World) : Prop :=
  M.new 42 (Value.cells x0) (fun t2 w =>
  M.new 42 (Value.cells x1) (fun t3 w =>
  M.fieldAddr 2 t2 (fun t6 w =>
  M.load1 t6 (fun t7 w =>
  M.fieldAddr 2 t3 (fun t8 w =>
  M.load1 t8 (fun t9 w =>
  M.bin .neq t7 t9 (fun t10 w =>
  M.gd t10 false (fun k w => M.fieldAddr 0 t2 k w) (fun t12 w =>
  M.gd t10 false (fun k w => M.load1 t12 k w) (fun t13 w =>
  M.gd t10 false (fun k w => M.fieldAddr 0 t3 k w) (fun t14 w =>
  M.gd t10 false (fun k w => M.load1 t14 k w) (fun t15 w =>
  M.gd t10 false (fun k w => M.call Try.prog 48 #[t13, t15] k w) (fun t16 w =>
  M.gd t10 false (fun k w => M.not t16 k w) (fun t17 w =>
  M.pick t10 (Value.bool true) t17 (fun t18 w =>
  M.gd t18 false (fun k w => M.fieldAddr 1 t2 k w) (fun t20 w =>
  M.gd t18 false (fun k w => M.load1 t20 k w) (fun t21 w =>
  M.gd t18 false (fun k w => M.len t21 k w) (fun t22 w =>
  M.gd t18 false (fun k w => M.fieldAddr 1 t3 k w) (fun t23 w =>
  M.gd t18 false (fun k w => M.load1 t23 k w) (fun t24 w =>
  M.gd t18 false (fun k w => M.len t24 k w) (fun t25 w =>
  M.gd t18 false (fun k w => M.bin .neq t22 t25 k w) (fun t26 w =>
  M.pick t18 (Value.bool true) t26 (fun t27 w =>
  M.cond t27
  (R (Value.bool false) w)
  (M.loop [(Value.int IntKind.i64 0)] (fun s1 K1 w => ∀ _ : List Value,
  M.fieldAddr 1 t2 (fun t29 w =>
  M.load1 t29 (fun t30 w =>
  M.len t30 (fun t31 w =>
  M.bin .lss (s1.getD 0 undef) t31 (fun t32 w =>
  M.cond t32
  (M.draw (fun w =>
  M.fieldAddr 1 t2 (fun t35 w =>
  M.load1 t35 (fun t36 w =>
  M.indexSl 3 t36 (s1.getD 0 undef) (fun t38 w =>
  M.loadA 3 t38 (fun t39 w =>
  M.fieldAddr 1 t3 (fun t40 w =>
  M.load1 t40 (fun t41 w =>
  M.indexSl 3 t41 (s1.getD 0 undef) (fun t43 w =>
  M.loadA 3 t43 (fun t44 w =>
  M.val Try.prog (do eqGuard .neq 116 (Operand.tmp 39) (Operand.tmp 44) t39 t44; binOp .neq 116 t39 t44) (fun t45 w =>
  ((M.load1 t40 (fun v' _ => v' = t41) w) ∧ ((M.load1 t35 (fun v' _ => v' = t36) w) ∧ M.cond t45
  (R (Value.bool false) w)
  (M.bin .add (s1.getD 0 undef) (Value.int IntKind.i64 1) (fun t34 w =>
  K1 [t34] w) w)))) w) w) w) w) w) w) w) w) w) w)
  (R (Value.bool true) w)) w) w) w) w) w)) w) w) w) w) w) w) w) w) w) w) w) w) w) w) w) w) w) w) w) w) w) w
theorem ok25 (x0 x1 : Value) (R : Kt) (w : World) (h : sh25 x0 x1 R w) : Ret Try.prog 25 #[x0, x1] w R :=
  ret_mk <| calls_of_comp mixed (c := Try.f25.body.getD .skip) (args := [x0, x1]) (rs := [(ResultVar.tmp 4)]) (Ann.seq Ann.text (Ann.seq (Ann.seq Ann.text (Ann.cond (Ann.seq Ann.text Ann.leaf) Ann.leaf)) (Ann.seq (Ann.seq Ann.text (Ann.block (Ann.loop [5] [4, 28, 29, 30, 31, 32, 33, 34, 35, 36, 37, 38, 39, 40, 41, 42, 43, 44, 45] (Ann.seq (Ann.seq Ann.text (Ann.cond Ann.leaf Ann.leaf)) (Ann.seq (Ann.block (Ann.seq (Ann.draw (Sch.take 0 (Sch.take 1 (Sch.take 2 (Sch.take 3 (Sch.take 4 (Sch.take 5 (Sch.take 6 (Sch.take 7 (Sch.take 8 (Sch.take 9 (Sch.one 10 Sch.done)))))))))))) (Ann.cond (Ann.seq Ann.text Ann.leaf) Ann.leaf))) Ann.text))))) (Ann.seq Ann.text Ann.leaf))))
    Try.func25 (by kernel_rfl) (by kernel_rfl)
    (Eq.mp (by kernel_rfl) h)
/-! breakwater/breakwaterref33.Same: function 18 -/
def sh18 (x0 x1 : Value) (R : Kt) (w : World) : Prop :=
  M.new 44 (Value.cells x0) (fun t2 w =>
  M.new 44 (Value.cells x1) (fun t3 w =>
  M.fieldAddr 0 t2 (fun t5 w =>
  M.loadA 8 t5 (fun t6 w =>
  M.fieldAddr 0 t3 (fun t7 w =>
  M.loadA 8 t7 (fun t8 w =>
  M.val Try.prog (do eqGuard .eql 39 (Operand.tmp 6) (Operand.tmp 8) t6 t8; binOp .eql 39 t6 t8) (fun t9 w =>
  M.gd t9 true (fun k w => M.fieldAddr 8 t2 k w) (fun t11 w =>
  M.gd t9 true (fun k w => M.load1 t11 k w) (fun t12 w =>
  M.gd t9 true (fun k w => M.fieldAddr 8 t3 k w) (fun t13 w =>
  M.gd t9 true (fun k w => M.load1 t13 k w) (fun t14 w =>
  M.gd t9 true (fun k w => M.call Try.prog 48 #[t12, t14] k w) (fun t15 w =>
  M.pick t9 t15 (Value.bool false) (fun t16 w =>
  M.gd t16 true (fun k w => M.fieldAddr 9 t2 k w) (fun t18 w =>
  M.gd t16 true (fun k w => M.load1 t18 k w) (fun t19 w =>
  M.gd t16 true (fun k w => M.fieldAddr 9 t3 k w) (fun t20 w =>
  M.gd t16 true (fun k w => M.load1 t20 k w) (fun t21 w =>
  M.gd t16 true (fun k w => M.bin .eql t19 t21 k w) (fun t22 w =>
  M.pick t16 t22 (Value.bool false) (fun t23 w =>
  M.gd t23 true (fun k w => M.fieldAddr 10 t2 k w) (fun t25 w =>
  M.gd t23 true (fun k w => M.load1 t25 k w) (fun t26 w =>
  M.gd t23 true (fun k w => M.fieldAddr 10 t3 k w) (fun t27 w =>
  M.gd t23 true (fun k w => M.load1 t27 k w) (fun t28 w =>
  M.gd t23 true (fun k w => M.bin .eql t26 t28 k w) (fun t29 w =>
  M.pick t23 t29 (Value.bool false) (fun t30 w =>
  M.gd t30 true (fun k w => M.fieldAddr 11 t2 k w) (fun t32 w =>
  M.gd t30 true (fun k w => M.load1 t32 k w) (fun t33 w =>
  M.gd t30 true (fun k w => M.fieldAddr 11 t3 k w) (fun t34 w =>
  M.gd t30 true (fun k w => M.load1 t34 k w) (fun t35 w =>
  M.gd t30 true (fun k w => M.bin .eql t33 t35 k w) (fun t36 w =>
  M.pick t30 t36 (Value.bool false) (fun t37 w =>
  M.gd t37 true (fun k w => M.fieldAddr 12 t2 k w) (fun t39 w =>
  M.gd t37 true (fun k w => M.load1 t39 k w) (fun t40 w =>
  M.gd t37 true (fun k w => M.fieldAddr 12 t3 k w) (fun t41 w =>
  M.gd t37 true (fun k w => M.load1 t41 k w) (fun t42 w =>
  M.gd t37 true (fun k w => M.bin .eql t40 t42 k w) (fun t43 w =>
  M.pick t37 t43 (Value.bool false) (fun t44 w =>
  M.gd t44 true (fun k w => M.fieldAddr 13 t2 k w) (fun t46 w =>
  M.gd t44 true (fun k w => M.load1 t46 k w) (fun t47 w =>
  M.gd t44 true (fun k w => M.fieldAddr 13 t3 k w) (fun t48 w =>
  M.gd t44 true (fun k w => M.load1 t48 k w) (fun t49 w =>
  M.gd t44 true (fun k w => M.bin .eql t47 t49 k w) (fun t50 w =>
  M.pick t44 t50 (Value.bool false) (fun t51 w =>
  M.gd t51 true (fun k w => M.fieldAddr 14 t2 k w) (fun t53 w =>
  M.gd t51 true (fun k w => M.load1 t53 k w) (fun t54 w =>
  M.gd t51 true (fun k w => M.fieldAddr 14 t3 k w) (fun t55 w =>
  M.gd t51 true (fun k w => M.load1 t55 k w) (fun t56 w =>
  M.gd t51 true (fun k w => M.bin .eql t54 t56 k w) (fun t57 w =>
  M.pick t51 t57 (Value.bool false) (fun t58 w =>
  M.gd t58 true (fun k w => M.fieldAddr 15 t2 k w) (fun t60 w =>
  M.gd t58 true (fun k w => M.loadA 3 t60 k w) (fun t61 w =>
  M.gd t58 true (fun k w => M.fieldAddr 15 t3 k w) (fun t62 w =>
  M.gd t58 true (fun k w => M.loadA 3 t62 k w) (fun t63 w =>
  M.gd t58 true (fun k w => M.call Try.prog 25 #[t61, t63] k w) (fun t64 w =>
  M.pick t58 t64 (Value.bool false) (fun t65 w =>
  R t65 w) w) w) w) w) w) w) w) w) w) w) w) w) w) w) w) w) w) w) w) w) w) w) w) w) w) w) w) w) w) w) w) w) w) w) w) w) w) w) w) w) w) w) w) w) w) w) w) w) w) w) w) w) w) w) w
theorem ok18 (x0 x1 : Value) (R : Kt) (w : World) (h : sh18 x0 x1 R w) : Ret Try.prog 18 #[x0, x1] w R :=
  ret_mk <| calls_of_comp mixed (c := Try.f18.body.getD .skip) (args := [x0, x1]) (rs := [(ResultVar.tmp 4)]) (Ann.seq Ann.text (Ann.seq Ann.text Ann.leaf))
    Try.func18 (by kernel_rfl) (by kernel_rfl)
    (Eq.mp (by kernel_rfl) h)
/-! breakwater/breakwaterref31.New: function 17 -/
def sh17 (x0 : Value) (R : Kt) (w : World) : Prop :=
  M.new 42 #[.slice none 0 0, .slice none 0 0, .int .i64 0] (fun t2 w =>
  M.append 38 1 8 #[.int .u64 0] (Value.slice none 0 0) x0 (fun t4 w =>
  pureW Try.prog (Instr.build 42 #[(0, t4)]) (fun t5 w =>
  M.store 3 t2 t5 (fun _ w =>
  M.loadA 3 t2 (fun r0 w => R r0 w) w) w) w) w) w
theorem ok17 (x0 : Value) (R : Kt) (w : World) (h : sh17 x0 R w) : Ret Try.prog 17 #[x0] w R :=
  ret_mk <| calls_of_comp mixed (c := Try.f17.body.getD .skip) (args := [x0]) (rs := [(ResultVar.cell 2 42)]) (Ann.seq Ann.text (Ann.seq Ann.text Ann.leaf))
    Try.func17 (by kernel_rfl) (by kernel_rfl)
    (Eq.mp (by kernel_rfl) h)
/-! breakwater/breakwaterref33.Start: function 16 -/
def sh16 (x0 x1 : Value) (R : Kt) (w : World) : Prop :=
  M.new 42 (Value.cells x0) (fun t2 w =>
  M.new 44 #[.int .u64 0, .int .u64 0, .int .u64 0, .int .u64 0, .int .u64 0, .int .u64 0, .int .u64 0, .int .u64 0, .slice none 0 0, .int .i64 0, .int .i64 0, .int .i64 0, .int .i64 0, .int .i64 0, .int .u64 0, .slice none 0 0, .slice none 0 0, .int .i64 0] (fun t4 w =>
  M.share (fun K1 w =>
  M.bin .lss x1 (Value.int IntKind.i64 0) (fun t6 w =>
  M.gd t6 false (fun k w => k x1 w) (fun t8 w =>
  M.gd t6 false (fun k w => M.bin .gtr t8 (Value.int IntKind.i64 255) k w) (fun t9 w =>
  M.pick t6 (Value.bool true) t9 (fun t10 w =>
  M.cond t10
  (K1 [(Value.int IntKind.i64 0)] w)
  (K1 [x1] w)) w) w) w) w) (fun s1 w => ∀ _ : List Value,
  M.draw (fun w =>
  M.loadA 3 t2 (fun t13 w =>
  M.makeSlice 38 1 8 #[.int .u64 0] (s1.getD 0 undef) (s1.getD 0 undef) (fun t12 w =>
  ((M.loadA 3 t2 (fun v' _ => v' = t13) w) ∧ pureW Try.prog (Instr.build 44 #[(1, t12), (8, t13)]) (fun t14 w =>
  M.store 18 t4 t14 (fun _ w =>
  M.loadA 18 t4 (fun r0 w => R r0 w) w) w) w)) w) w) w) w) w) w
theorem ok16 (x0 x1 : Value) (R : Kt) (w : World) (h : sh16 x0 x1 R w) : Ret Try.prog 16 #[x0, x1] w R :=
  ret_mk <| calls_of_comp mixed (c := Try.f16.body.getD .skip) (args := [x0, x1]) (rs := [(ResultVar.cell 4 44)]) (Ann.seq Ann.text (Ann.join [1] [5, 6, 7, 8, 9, 10] (Ann.seq Ann.text (Ann.cond Ann.text Ann.leaf)) (Ann.seq (Ann.draw (Sch.take 0 (Sch.take 2 (Sch.one 1 (Sch.take 3 (Sch.one 4 Sch.done)))))) Ann.leaf)))
    Try.func16 (by kernel_rfl) (by kernel_rfl)
    (Eq.mp (by kernel_rfl) h)
/-! breakwater/breakwaterlaw33.Few: function 19 -/
def sh19 (x0 : Value) (R : Kt) (w : World) : Prop :=
  M.new 44 (Value.cells x0) (fun t1 w =>
  M.fieldAddr 8 t1 (fun t3 w =>
  M.load1 t3 (fun t4 w =>
  M.len t4 (fun t5 w =>
  M.bin .gtr t5 (Value.int IntKind.i64 300) (fun t6 w =>
  M.gd t6 false (fun k w => M.fieldAddr 15 t1 k w) (fun t8 w =>
  M.gd t6 false (fun k w => M.loadA 3 t8 k w) (fun t9 w =>
  M.gd t6 false (fun k w => M.call Try.prog 55 #[t9] k w) (fun t10 w =>
  M.gd t6 false (fun k w => M.bin .eql t10 (Value.int IntKind.i64 0) k w) (fun t11 w =>
  M.pick t6 (Value.bool true) t11 (fun t12 w =>
  M.cond t12
  (R (Value.int IntKind.i64 0) w)
  (R (Value.int IntKind.i64 1) w)) w) w) w) w) w) w) w) w) w) w
theorem ok19 (x0 : Value) (R : Kt) (w : World) (h : sh19 x0 R w) : Ret Try.prog 19 #[x0] w R :=
  ret_mk <| calls_of_comp mixed (c := Try.f19.body.getD .skip) (args := [x0]) (rs := [(ResultVar.tmp 2)]) (Ann.seq Ann.text (Ann.seq (Ann.seq Ann.text (Ann.cond (Ann.seq Ann.text Ann.leaf) Ann.leaf)) (Ann.seq Ann.text Ann.leaf)))
    Try.func19 (by kernel_rfl) (by kernel_rfl)
    (Eq.mp (by kernel_rfl) h)
/-! breakwater/breakwaterlaw31.Few: function 55 -/
def sh55 (x0 : Value) (R : Kt) (w : World) : Prop :=
  M.new 42 (Value.cells x0) (fun t1 w =>
  M.fieldAddr 0 t1 (fun t3 w =>
  M.load1 t3 (fun t4 w =>
  M.len t4 (fun t5 w =>
  M.bin .gtr t5 (Value.int IntKind.i64 100) (fun t6 w =>
  M.gd t6 false (fun k w => M.fieldAddr 1 t1 k w) (fun t8 w =>
  M.gd t6 false (fun k w => M.load1 t8 k w) (fun t9 w =>
  M.gd t6 false (fun k w => M.len t9 k w) (fun t10 w =>
  M.gd t6 false (fun k w => M.bin .gtr t10 (Value.int IntKind.i64 60) k w) (fun t11 w =>
  M.pick t6 (Value.bool true) t11 (fun t12 w =>
  M.cond t12
  (R (Value.int IntKind.i64 0) w)
  (R (Value.int IntKind.i64 1) w)) w) w) w) w) w) w) w) w) w) w
theorem ok55 (x0 : Value) (R : Kt) (w : World) (h : sh55 x0 R w) : Ret Try.prog 55 #[x0] w R :=
  ret_mk <| calls_of_comp mixed (c := Try.f55.body.getD .skip) (args := [x0]) (rs := [(ResultVar.tmp 2)]) (Ann.seq Ann.text (Ann.seq (Ann.seq Ann.text (Ann.cond (Ann.seq Ann.text Ann.leaf) Ann.leaf)) (Ann.seq Ann.text Ann.leaf)))
    Try.func55 (by kernel_rfl) (by kernel_rfl)
    (Eq.mp (by kernel_rfl) h)

/-! ### states -/
structure St where
  regs : List W64
  cells : List W64
  pc : Int
  steps : Int
  calls : Int
  en : Int
  code : Int
  value : W64
  dev : Dv
structure Sy where
  regs : List Int
  cells : List Int
  pc : Int
  steps : Int
  calls : Int
  en : Int
  code : Int
  value : Int
  dev : SDv
  conds : List Int
def St.vals (s : St) (c a b : Value) : List Value := s.regs.map vw ++ [c, vi s.pc, vi s.steps, vi s.calls, vi s.en, vi s.code, vw s.value, a, b, vi s.dev.ep]
def Sy.vals (s : Sy) (c a b d : Value) : List Value := s.regs.map vi ++ [c, vi s.pc, vi s.steps, vi s.calls, vi s.en, vi s.code, vi s.value, a, b, vi s.dev.ep, d]
def StO (w : World) (D : Nat → Prop) (v : Value) (s : St) : Prop := s.regs.length = 8 ∧ ∃ c a b, v = .agg ⟨s.vals c a b⟩ ∧ LV vw w D c s.cells ∧ DvO w D a b s.dev
def SyO (w : World) (D : Nat → Prop) (v : Value) (s : Sy) : Prop := s.regs.length = 8 ∧ ∃ c a b d, v = .agg ⟨s.vals c a b d⟩ ∧ LV vi w D c s.cells ∧ SDvO w D a b s.dev ∧ LV vi w D d s.conds
theorem StO.keep {w w' : World} {D S : Nat → Prop} {v : Value} {s : St} (h : StO w D v s) (k : Keep w w' S) (hs : ∀ b, b < w.heap.size → D b → ¬ S b) : StO w' D v s := by
  obtain ⟨h1, c, a, b, h2, h3, h4⟩ := h
  exact ⟨h1, c, a, b, h2, h3.keep k hs, h4.keep k hs⟩
theorem StO.mono {w : World} {D D' : Nat → Prop} {v : Value} {s : St} (h : StO w D v s) (hd : ∀ b, b < w.heap.size → D b → D' b) : StO w D' v s := by
  obtain ⟨h1, c, a, b, h2, h3, h4⟩ := h
  exact ⟨h1, c, a, b, h2, h3.mono hd, h4.mono hd⟩
theorem SyO.keep {w w' : World} {D S : Nat → Prop} {v : Value} {s : Sy} (h : SyO w D v s) (k : Keep w w' S) (hs : ∀ b, b < w.heap.size → D b → ¬ S b) : SyO w' D v s := by
  obtain ⟨h1, c, a, b, d, h2, h3, h4, h5⟩ := h
  exact ⟨h1, c, a, b, d, h2, h3.keep k hs, h4.keep k hs, h5.keep k hs⟩
theorem SyO.mono {w : World} {D D' : Nat → Prop} {v : Value} {s : Sy} (h : SyO w D v s) (hd : ∀ b, b < w.heap.size → D b → D' b) : SyO w D' v s := by
  obtain ⟨h1, c, a, b, d, h2, h3, h4, h5⟩ := h
  exact ⟨h1, c, a, b, d, h2, h3.mono hd, h4.mono hd, h5.mono hd⟩
theorem eight {α : Type} {l : List α} (h : l.length = 8) : ∃ a0 a1 a2 a3 a4 a5 a6 a7, l = [a0, a1, a2, a3, a4, a5, a6, a7] := by
  match l, h with
  | [a0, a1, a2, a3, a4, a5, a6, a7], _ => exact ⟨_, _, _, _, _, _, _, _, rfl⟩
theorem eq8 (a0 a1 a2 a3 a4 a5 a6 a7 : W64) (w : World) : (binOp .eql 39 (.agg #[vw a0, vw a1, vw a2, vw a3, vw a4, vw a5, vw a6, vw a7]) (.agg #[vw a0, vw a1, vw a2, vw a3, vw a4, vw a5, vw a6, vw a7])).run Try.prog w = .ok (.bool true) w := by
  have u9 := Try.underlying38
  have a9 := Try.isAgg38
  have z9 := Try.sizeOf38
  have hu : Try.prog.underlying 39 = some (.array 8 38) := by kernel_rfl
  have hi : ∃ i, Try.prog.info? 38 = some i := Option.isSome_iff_exists.1 (by kernel_rfl)
  have hc : Try.prog.cellsOf 38 = 1 := by kernel_rfl
  obtain ⟨i, hi⟩ := hi
  rw [run_eql_struct, show (10000 : Nat) = 9999 + 1 from rfl, run_equalIn_array w 9999 _ _ hu hi]
  have hr : List.range 8 = [0, 1, 2, 3, 4, 5, 6, 7] := rfl
  rw [hr, hc]
  simp only [Op.eqItems]
  go_simp
theorem neqPd (x : PD) (w : World) : (binOp .neq 116 (.agg ⟨x.cells⟩) (.agg ⟨x.cells⟩)).run Try.prog w = .ok (.bool false) w := by
  have u3 := Try.underlying3
  have a3 := Try.isAgg3
  have z3 := Try.sizeOf3
  have u9 := Try.underlying38
  have a9 := Try.isAgg38
  have z9 := Try.sizeOf38
  have hS : Try.prog.underlying 116 = some (.struct (Try.prog.fieldsOf 116)) := by kernel_rfl
  have hp : Try.prog.stoodInHeld 116 = false := by kernel_rfl
  rw [run_neq_struct, show (10000 : Nat) = 9999 + 1 from rfl, run_equalIn_agg w 9999 116 _ _ hS hp]
  simp only [Program.fieldsOf, Try.underlying116, PD.cells]
  obtain ⟨x1, x2, x3⟩ := x
  go_simp
theorem words_ret {w : World} {D D' : Nat → Prop} {u v : Value} {xs : List W64} (hu : LV vw w D u xs) (hv : LV vw w D' v xs) (hf : xs.length ≤ 1000000) :
    Ret Try.prog 48 #[u, v] w (fun r w' => r = .bool true ∧ Keep w w' No) := by
  obtain ⟨A, c, rfl, hr, _⟩ := hu
  obtain ⟨B, c', rfl, hr', _⟩ := hv
  refine ok48 _ _ _ _ ?_
  unfold sh48
  (repeat (first|refine ja ?_|refine jb ?_|refine jc ?_|refine jd ?_|refine je ?_|refine jf ?_|refine jg ?_|refine jh ?_|refine ji ?_|refine jj ?_|refine jk ?_|refine jl ?_|refine jm ?_|refine jn ?_|refine jo ?_|refine jp ?_|refine jq ?_|refine jr ?_|refine js ?_|refine jt ?_|refine ju ?_|refine jv ?_|refine jw ?_|refine jx ?_|refine jy ?_|refine jz ?_|refine jA ?_|refine jB ?_|refine jC ?_|refine jD ?_|refine jE ?_|refine jF ?_|refine jG ?_|refine jH ?_|refine jI ?_|refine jJ ?_|refine jK ?_|refine jL ?_|refine jM (by assumption) ?_|refine jN (by assumption) rfl ?_|refine jO (by assumption) ?_|refine jP (by assumption) rfl ?_|refine jQ ?_|refine jR ?_|refine jS ?_|refine jT ?_|refine jU (by assumption) rfl ?_))
  refine M.loop_i (σ := Nat) (fun i vals w' => vals = [vi i] ∧ i ≤ xs.length ∧ Keep w w' No) (fun i => xs.length - i) 0 ⟨rfl, by omega, Keep.refl _ _⟩ ?_
  rintro i vals w1 K ⟨rfl, hi, k1⟩ hK _
  simp only [List.getD_cons_zero, List.getD_cons_succ]
  by_cases hlt : i < xs.length
  · (repeat (first|refine ja ?_|refine jb ?_|refine jc ?_|refine jd ?_|refine je ?_|refine jf ?_|refine jg ?_|refine jh ?_|refine ji ?_|refine jj ?_|refine jk ?_|refine jl ?_|refine jm ?_|refine jn ?_|refine jo ?_|refine jp ?_|refine jq ?_|refine jr ?_|refine js ?_|refine jt ?_|refine ju ?_|refine jv ?_|refine jw ?_|refine jx ?_|refine jy ?_|refine jz ?_|refine jA ?_|refine jB ?_|refine jC ?_|refine jD ?_|refine jE ?_|refine jF ?_|refine jG ?_|refine jH ?_|refine jI ?_|refine jJ ?_|refine jK ?_|refine jL ?_|refine jM (by assumption) ?_|refine jN (by assumption) rfl ?_|refine jO (by assumption) ?_|refine jP (by assumption) rfl ?_|refine jQ ?_|refine jR ?_|refine jS ?_|refine jT ?_|refine jU (by assumption) rfl ?_))
    have k2 := k1.trans (Keep.drew w1 No) (fun _ _ h => h)
    refine M.idxLV_i (hr.keep k2 (fun _ _ _ h => h)) rfl (by omega) (by omega) (x := xs[i]) (by rw [Int.toNat_natCast]; exact List.getElem?_eq_getElem hlt) (fun bb oo hA hcc => ?_)
    (repeat (first|refine ja ?_|refine jb ?_|refine jc ?_|refine jd ?_|refine je ?_|refine jf ?_|refine jg ?_|refine jh ?_|refine ji ?_|refine jj ?_|refine jk ?_|refine jl ?_|refine jm ?_|refine jn ?_|refine jo ?_|refine jp ?_|refine jq ?_|refine jr ?_|refine js ?_|refine jt ?_|refine ju ?_|refine jv ?_|refine jw ?_|refine jx ?_|refine jy ?_|refine jz ?_|refine jA ?_|refine jB ?_|refine jC ?_|refine jD ?_|refine jE ?_|refine jF ?_|refine jG ?_|refine jH ?_|refine jI ?_|refine jJ ?_|refine jK ?_|refine jL ?_|refine jM (by assumption) ?_|refine jN (by assumption) rfl ?_|refine jO (by assumption) ?_|refine jP (by assumption) rfl ?_|refine jQ ?_|refine jR ?_|refine jS ?_|refine jT ?_|refine jU (by assumption) rfl ?_))
    refine M.idxLV_i (hr'.keep k2 (fun _ _ _ h => h)) rfl (by omega) (by omega) (x := xs[i]) (by rw [Int.toNat_natCast]; exact List.getElem?_eq_getElem hlt) (fun bb' oo' hA' hcc' => ?_)
    (repeat (first|refine ja ?_|refine jb ?_|refine jc ?_|refine jd ?_|refine je ?_|refine jf ?_|refine jg ?_|refine jh ?_|refine ji ?_|refine jj ?_|refine jk ?_|refine jl ?_|refine jm ?_|refine jn ?_|refine jo ?_|refine jp ?_|refine jq ?_|refine jr ?_|refine js ?_|refine jt ?_|refine ju ?_|refine jv ?_|refine jw ?_|refine jx ?_|refine jy ?_|refine jz ?_|refine jA ?_|refine jB ?_|refine jC ?_|refine jD ?_|refine jE ?_|refine jF ?_|refine jG ?_|refine jH ?_|refine jI ?_|refine jJ ?_|refine jK ?_|refine jL ?_|refine jM (by assumption) ?_|refine jN (by assumption) rfl ?_|refine jO (by assumption) ?_|refine jP (by assumption) rfl ?_|refine jQ ?_|refine jR ?_|refine jS ?_|refine jT ?_|refine jU (by assumption) rfl ?_))
    exact hK (i + 1) _ _ (by omega) ⟨by simp, by omega, k2⟩
  · (repeat (first|refine ja ?_|refine jb ?_|refine jc ?_|refine jd ?_|refine je ?_|refine jf ?_|refine jg ?_|refine jh ?_|refine ji ?_|refine jj ?_|refine jk ?_|refine jl ?_|refine jm ?_|refine jn ?_|refine jo ?_|refine jp ?_|refine jq ?_|refine jr ?_|refine js ?_|refine jt ?_|refine ju ?_|refine jv ?_|refine jw ?_|refine jx ?_|refine jy ?_|refine jz ?_|refine jA ?_|refine jB ?_|refine jC ?_|refine jD ?_|refine jE ?_|refine jF ?_|refine jG ?_|refine jH ?_|refine jI ?_|refine jJ ?_|refine jK ?_|refine jL ?_|refine jM (by assumption) ?_|refine jN (by assumption) rfl ?_|refine jO (by assumption) ?_|refine jP (by assumption) rfl ?_|refine jQ ?_|refine jR ?_|refine jS ?_|refine jT ?_|refine jU (by assumption) rfl ?_))
    exact ⟨by simp, k1⟩
def Dv.few (d : Dv) : Prop := d.disk.length ≤ 1000000 ∧ d.pend.length ≤ 1000000
theorem M.neqPd_i {k : Kt} {w : World} {o1 o2 : Operand} {x : PD} (h : k (.bool false) w) :
    M.val Try.prog (do eqGuard .neq 116 o1 o2 (.agg ⟨x.cells⟩) (.agg ⟨x.cells⟩); binOp .neq 116 (.agg ⟨x.cells⟩) (.agg ⟨x.cells⟩)) k w := by
  refine M.val_i (v := .bool false) (w' := w) ?_ h
  have hm : Try.prog.eqGuardType Try.prog.depth 116 = false := by kernel_rfl
  rw [Sem.run_bind, run_eqGuard_agg w .neq _ o1 o2 _ _ hm]
  exact neqPd x w
theorem same31_ret {w : World} {D D' : Nat → Prop} {a b a' b' : Value} {d : Dv} (hu : DvO w D a b d) (hv : DvO w D' a' b' d) (hf : d.few) :
    Ret Try.prog 25 #[.agg ⟨[a, b, vi d.ep]⟩, .agg ⟨[a', b', vi d.ep]⟩] w (fun r w' => r = .bool true ∧ Keep w w' No) := by
  obtain ⟨hf1, hf2⟩ := hf
  refine ok25 _ _ _ _ ?_
  unfold sh25
  refine M.new_i (l := [a, b, vi d.ep]) (fun w1 b1 k1 s1 => ?_)
  refine M.new_i (l := [a', b', vi d.ep]) (fun w2 b2 k2 s2 => ?_)
  have b1 := b1.keep k2 (fun h => h)
  have k12 := k1.trans k2 (fun _ _ h => h)
  have hu := hu.keep k12 (fun _ _ _ h => h)
  have hv := hv.keep k12 (fun _ _ _ h => h)
  (repeat (first|refine ja ?_|refine jb ?_|refine jc ?_|refine jd ?_|refine je ?_|refine jf ?_|refine jg ?_|refine jh ?_|refine ji ?_|refine jj ?_|refine jk ?_|refine jl ?_|refine jm ?_|refine jn ?_|refine jo ?_|refine jp ?_|refine jq ?_|refine jr ?_|refine js ?_|refine jt ?_|refine ju ?_|refine jv ?_|refine jw ?_|refine jx ?_|refine jy ?_|refine jz ?_|refine jA ?_|refine jB ?_|refine jC ?_|refine jD ?_|refine jE ?_|refine jF ?_|refine jG ?_|refine jH ?_|refine jI ?_|refine jJ ?_|refine jK ?_|refine jL ?_|refine jM (by assumption) ?_|refine jN (by assumption) rfl ?_|refine jO (by assumption) ?_|refine jP (by assumption) rfl ?_|refine jQ ?_|refine jR ?_|refine jS ?_|refine jT ?_|refine jU (by assumption) rfl ?_))
  refine M.call_i (words_ret hu.1 hv.1 hf1) ?_; rintro _ w3 ⟨rfl, k3⟩
  have b1 := b1.keep k3 (fun h => h)
  have b2 := b2.keep k3 (fun h => h)
  have k13 := k12.trans k3 (fun _ _ h => h)
  obtain ⟨_, A, c, rfl, hr, _⟩ := hu.keep k3 (fun _ _ _ h => h)
  obtain ⟨_, A', c', rfl, hr', _⟩ := hv.keep k3 (fun _ _ _ h => h)
  (repeat (first|refine ja ?_|refine jb ?_|refine jc ?_|refine jd ?_|refine je ?_|refine jf ?_|refine jg ?_|refine jh ?_|refine ji ?_|refine jj ?_|refine jk ?_|refine jl ?_|refine jm ?_|refine jn ?_|refine jo ?_|refine jp ?_|refine jq ?_|refine jr ?_|refine js ?_|refine jt ?_|refine ju ?_|refine jv ?_|refine jw ?_|refine jx ?_|refine jy ?_|refine jz ?_|refine jA ?_|refine jB ?_|refine jC ?_|refine jD ?_|refine jE ?_|refine jF ?_|refine jG ?_|refine jH ?_|refine jI ?_|refine jJ ?_|refine jK ?_|refine jL ?_|refine jM (by assumption) ?_|refine jN (by assumption) rfl ?_|refine jO (by assumption) ?_|refine jP (by assumption) rfl ?_|refine jQ ?_|refine jR ?_|refine jS ?_|refine jT ?_|refine jU (by assumption) rfl ?_))
  refine M.loop_i (σ := Nat) (fun i vals w' => vals = [vi i] ∧ i ≤ d.pend.length ∧ Keep w3 w' No) (fun i => d.pend.length - i) 0 ⟨rfl, by omega, Keep.refl _ _⟩ ?_
  rintro i vals w4 K ⟨rfl, hi, k4⟩ hK _
  simp only [List.getD_cons_zero, List.getD_cons_succ]
  have b1 := b1.keep k4 (fun h => h)
  have b2 := b2.keep k4 (fun h => h)
  by_cases hlt : i < d.pend.length
  · (repeat (first|refine ja ?_|refine jb ?_|refine jc ?_|refine jd ?_|refine je ?_|refine jf ?_|refine jg ?_|refine jh ?_|refine ji ?_|refine jj ?_|refine jk ?_|refine jl ?_|refine jm ?_|refine jn ?_|refine jo ?_|refine jp ?_|refine jq ?_|refine jr ?_|refine js ?_|refine jt ?_|refine ju ?_|refine jv ?_|refine jw ?_|refine jx ?_|refine jy ?_|refine jz ?_|refine jA ?_|refine jB ?_|refine jC ?_|refine jD ?_|refine jE ?_|refine jF ?_|refine jG ?_|refine jH ?_|refine jI ?_|refine jJ ?_|refine jK ?_|refine jL ?_|refine jM (by assumption) ?_|refine jN (by assumption) rfl ?_|refine jO (by assumption) ?_|refine jP (by assumption) rfl ?_|refine jQ ?_|refine jR ?_|refine jS ?_|refine jT ?_|refine jU (by assumption) rfl ?_))
    have k5 := k4.trans (Keep.drew w4 No) (fun _ _ h => h)
    have b1 := b1.keep (Keep.drew w4 No) (fun h => h)
    have b2 := b2.keep (Keep.drew w4 No) (fun h => h)
    (repeat (first|refine ja ?_|refine jb ?_|refine jc ?_|refine jd ?_|refine je ?_|refine jf ?_|refine jg ?_|refine jh ?_|refine ji ?_|refine jj ?_|refine jk ?_|refine jl ?_|refine jm ?_|refine jn ?_|refine jo ?_|refine jp ?_|refine jq ?_|refine jr ?_|refine js ?_|refine jt ?_|refine ju ?_|refine jv ?_|refine jw ?_|refine jx ?_|refine jy ?_|refine jz ?_|refine jA ?_|refine jB ?_|refine jC ?_|refine jD ?_|refine jE ?_|refine jF ?_|refine jG ?_|refine jH ?_|refine jI ?_|refine jJ ?_|refine jK ?_|refine jL ?_|refine jM (by assumption) ?_|refine jN (by assumption) rfl ?_|refine jO (by assumption) ?_|refine jP (by assumption) rfl ?_|refine jQ ?_|refine jR ?_|refine jS ?_|refine jT ?_|refine jU (by assumption) rfl ?_))
    refine M.idxF_i pd_len (by omega) (hr.keep k5 (fun _ _ _ h => h)) rfl (by omega) (x := d.pend[i]) (by rw [Int.toNat_natCast]; exact List.getElem?_eq_getElem hlt) (fun bb oo hcc => ?_)
    refine M.load3_i (hcc 0 (vi d.pend[i].b) rfl) (hcc 1 (vw d.pend[i].v) rfl) (hcc 2 (vi d.pend[i].e) rfl) ?_
    (repeat (first|refine ja ?_|refine jb ?_|refine jc ?_|refine jd ?_|refine je ?_|refine jf ?_|refine jg ?_|refine jh ?_|refine ji ?_|refine jj ?_|refine jk ?_|refine jl ?_|refine jm ?_|refine jn ?_|refine jo ?_|refine jp ?_|refine jq ?_|refine jr ?_|refine js ?_|refine jt ?_|refine ju ?_|refine jv ?_|refine jw ?_|refine jx ?_|refine jy ?_|refine jz ?_|refine jA ?_|refine jB ?_|refine jC ?_|refine jD ?_|refine jE ?_|refine jF ?_|refine jG ?_|refine jH ?_|refine jI ?_|refine jJ ?_|refine jK ?_|refine jL ?_|refine jM (by assumption) ?_|refine jN (by assumption) rfl ?_|refine jO (by assumption) ?_|refine jP (by assumption) rfl ?_|refine jQ ?_|refine jR ?_|refine jS ?_|refine jT ?_|refine jU (by assumption) rfl ?_))
    refine M.idxF_i pd_len (by omega) (hr'.keep k5 (fun _ _ _ h => h)) rfl (by omega) (x := d.pend[i]) (by rw [Int.toNat_natCast]; exact List.getElem?_eq_getElem hlt) (fun bb' oo' hcc' => ?_)
    refine M.load3_i (hcc' 0 (vi d.pend[i].b) rfl) (hcc' 1 (vw d.pend[i].v) rfl) (hcc' 2 (vi d.pend[i].e) rfl) ?_
    refine M.neqPd_i (x := d.pend[i]) ?_
    (repeat (first|refine ja ?_|refine jb ?_|refine jc ?_|refine jd ?_|refine je ?_|refine jf ?_|refine jg ?_|refine jh ?_|refine ji ?_|refine jj ?_|refine jk ?_|refine jl ?_|refine jm ?_|refine jn ?_|refine jo ?_|refine jp ?_|refine jq ?_|refine jr ?_|refine js ?_|refine jt ?_|refine ju ?_|refine jv ?_|refine jw ?_|refine jx ?_|refine jy ?_|refine jz ?_|refine jA ?_|refine jB ?_|refine jC ?_|refine jD ?_|refine jE ?_|refine jF ?_|refine jG ?_|refine jH ?_|refine jI ?_|refine jJ ?_|refine jK ?_|refine jL ?_|refine jM (by assumption) ?_|refine jN (by assumption) rfl ?_|refine jO (by assumption) ?_|refine jP (by assumption) rfl ?_|refine jQ ?_|refine jR ?_|refine jS ?_|refine jT ?_|refine jU (by assumption) rfl ?_))
    exact hK (i + 1) _ _ (by omega) ⟨by simp, by omega, k5⟩
  · (repeat (first|refine ja ?_|refine jb ?_|refine jc ?_|refine jd ?_|refine je ?_|refine jf ?_|refine jg ?_|refine jh ?_|refine ji ?_|refine jj ?_|refine jk ?_|refine jl ?_|refine jm ?_|refine jn ?_|refine jo ?_|refine jp ?_|refine jq ?_|refine jr ?_|refine js ?_|refine jt ?_|refine ju ?_|refine jv ?_|refine jw ?_|refine jx ?_|refine jy ?_|refine jz ?_|refine jA ?_|refine jB ?_|refine jC ?_|refine jD ?_|refine jE ?_|refine jF ?_|refine jG ?_|refine jH ?_|refine jI ?_|refine jJ ?_|refine jK ?_|refine jL ?_|refine jM (by assumption) ?_|refine jN (by assumption) rfl ?_|refine jO (by assumption) ?_|refine jP (by assumption) rfl ?_|refine jQ ?_|refine jR ?_|refine jS ?_|refine jT ?_|refine jU (by assumption) rfl ?_))
    exact ⟨by simp, k13.trans k4 (fun _ _ h => h)⟩
def St.few (s : St) : Prop := s.cells.length ≤ 1000000 ∧ s.dev.few
theorem M.eq8_i {k : Kt} {w : World} {o1 o2 : Operand} {a0 a1 a2 a3 a4 a5 a6 a7 : W64} (h : k (.bool true) w) :
    M.val Try.prog (do eqGuard .eql 39 o1 o2 (.agg #[vw a0, vw a1, vw a2, vw a3, vw a4, vw a5, vw a6, vw a7]) (.agg #[vw a0, vw a1, vw a2, vw a3, vw a4, vw a5, vw a6, vw a7]); binOp .eql 39 (.agg #[vw a0, vw a1, vw a2, vw a3, vw a4, vw a5, vw a6, vw a7]) (.agg #[vw a0, vw a1, vw a2, vw a3, vw a4, vw a5, vw a6, vw a7])) k w := by
  refine M.val_i (v := .bool true) (w' := w) ?_ h
  have hm : Try.prog.eqGuardType Try.prog.depth 39 = false := by kernel_rfl
  rw [Sem.run_bind, run_eqGuard_agg w .eql _ o1 o2 _ _ hm]
  exact eq8 _ _ _ _ _ _ _ _ w
theorem same33_ret {w : World} {D D' : Nat → Prop} {u v : Value} {s : St} (hu : StO w D u s) (hv : StO w D' v s) (hf : s.few) :
    Ret Try.prog 18 #[u, v] w (fun r w' => r = .bool true ∧ Keep w w' No) := by
  obtain ⟨hf1, hf2⟩ := hf
  obtain ⟨h8, c, a, b, rfl, hc, hd⟩ := hu
  obtain ⟨_, c', a', b', rfl, hc', hd'⟩ := hv
  obtain ⟨regs, cells, pc, steps, calls, en, code, value, dev⟩ := s
  obtain ⟨r0, r1, r2, r3, r4, r5, r6, r7, rfl⟩ := eight h8
  simp only at hc hd hc' hd' hf1 hf2
  refine ok18 _ _ _ _ ?_
  unfold sh18
  refine M.new_i (l := [vw r0, vw r1, vw r2, vw r3, vw r4, vw r5, vw r6, vw r7, c, vi pc, vi steps, vi calls, vi en, vi code, vw value, a, b, vi dev.ep]) (fun w1 b1 k1 s1 => ?_)
  refine M.new_i (l := [vw r0, vw r1, vw r2, vw r3, vw r4, vw r5, vw r6, vw r7, c', vi pc, vi steps, vi calls, vi en, vi code, vw value, a', b', vi dev.ep]) (fun w2 b2 k2 s2 => ?_)
  have b1 := b1.keep k2 (fun h => h)
  have k12 := k1.trans k2 (fun _ _ h => h)
  refine M.field_i ?_
  refine M.loadA_i b1 (by simp) ?_
  refine M.field_i ?_
  refine M.loadA_i b2 (by simp) ?_
  refine M.eq8_i ?_
  (repeat (first|refine ja ?_|refine jb ?_|refine jc ?_|refine jd ?_|refine je ?_|refine jf ?_|refine jg ?_|refine jh ?_|refine ji ?_|refine jj ?_|refine jk ?_|refine jl ?_|refine jm ?_|refine jn ?_|refine jo ?_|refine jp ?_|refine jq ?_|refine jr ?_|refine js ?_|refine jt ?_|refine ju ?_|refine jv ?_|refine jw ?_|refine jx ?_|refine jy ?_|refine jz ?_|refine jA ?_|refine jB ?_|refine jC ?_|refine jD ?_|refine jE ?_|refine jF ?_|refine jG ?_|refine jH ?_|refine jI ?_|refine jJ ?_|refine jK ?_|refine jL ?_|refine jM (by assumption) ?_|refine jN (by assumption) rfl ?_|refine jO (by assumption) ?_|refine jP (by assumption) rfl ?_|refine jQ ?_|refine jR ?_|refine jS ?_|refine jT ?_|refine jU (by assumption) rfl ?_))
  refine M.call_i (words_ret (hc.keep k12 (fun _ _ _ h => h)) (hc'.keep k12 (fun _ _ _ h => h)) hf1) ?_; rintro _ w3 ⟨rfl, k3⟩
  have b1 := b1.keep k3 (fun h => h)
  have b2 := b2.keep k3 (fun h => h)
  have k13 := k12.trans k3 (fun _ _ h => h)
  (repeat (first|refine ja ?_|refine jb ?_|refine jc ?_|refine jd ?_|refine je ?_|refine jf ?_|refine jg ?_|refine jh ?_|refine ji ?_|refine jj ?_|refine jk ?_|refine jl ?_|refine jm ?_|refine jn ?_|refine jo ?_|refine jp ?_|refine jq ?_|refine jr ?_|refine js ?_|refine jt ?_|refine ju ?_|refine jv ?_|refine jw ?_|refine jx ?_|refine jy ?_|refine jz ?_|refine jA ?_|refine jB ?_|refine jC ?_|refine jD ?_|refine jE ?_|refine jF ?_|refine jG ?_|refine jH ?_|refine jI ?_|refine jJ ?_|refine jK ?_|refine jL ?_|refine jM (by assumption) ?_|refine jN (by assumption) rfl ?_|refine jO (by assumption) ?_|refine jP (by assumption) rfl ?_|refine jQ ?_|refine jR ?_|refine jS ?_|refine jT ?_|refine jU (by assumption) rfl ?_))
  refine M.loadA_i b1 (by simp) ?_
  (repeat (first|refine ja ?_|refine jb ?_|refine jc ?_|refine jd ?_|refine je ?_|refine jf ?_|refine jg ?_|refine jh ?_|refine ji ?_|refine jj ?_|refine jk ?_|refine jl ?_|refine jm ?_|refine jn ?_|refine jo ?_|refine jp ?_|refine jq ?_|refine jr ?_|refine js ?_|refine jt ?_|refine ju ?_|refine jv ?_|refine jw ?_|refine jx ?_|refine jy ?_|refine jz ?_|refine jA ?_|refine jB ?_|refine jC ?_|refine jD ?_|refine jE ?_|refine jF ?_|refine jG ?_|refine jH ?_|refine jI ?_|refine jJ ?_|refine jK ?_|refine jL ?_|refine jM (by assumption) ?_|refine jN (by assumption) rfl ?_|refine jO (by assumption) ?_|refine jP (by assumption) rfl ?_|refine jQ ?_|refine jR ?_|refine jS ?_|refine jT ?_|refine jU (by assumption) rfl ?_))
  refine M.loadA_i b2 (by simp) ?_
  (repeat (first|refine ja ?_|refine jb ?_|refine jc ?_|refine jd ?_|refine je ?_|refine jf ?_|refine jg ?_|refine jh ?_|refine ji ?_|refine jj ?_|refine jk ?_|refine jl ?_|refine jm ?_|refine jn ?_|refine jo ?_|refine jp ?_|refine jq ?_|refine jr ?_|refine js ?_|refine jt ?_|refine ju ?_|refine jv ?_|refine jw ?_|refine jx ?_|refine jy ?_|refine jz ?_|refine jA ?_|refine jB ?_|refine jC ?_|refine jD ?_|refine jE ?_|refine jF ?_|refine jG ?_|refine jH ?_|refine jI ?_|refine jJ ?_|refine jK ?_|refine jL ?_|refine jM (by assumption) ?_|refine jN (by assumption) rfl ?_|refine jO (by assumption) ?_|refine jP (by assumption) rfl ?_|refine jQ ?_|refine jR ?_|refine jS ?_|refine jT ?_|refine jU (by assumption) rfl ?_))
  refine M.call_i (same31_ret (hd.keep k13 (fun _ _ _ h => h)) (hd'.keep k13 (fun _ _ _ h => h)) hf2) ?_; rintro _ w4 ⟨rfl, k4⟩
  (repeat (first|refine ja ?_|refine jb ?_|refine jc ?_|refine jd ?_|refine je ?_|refine jf ?_|refine jg ?_|refine jh ?_|refine ji ?_|refine jj ?_|refine jk ?_|refine jl ?_|refine jm ?_|refine jn ?_|refine jo ?_|refine jp ?_|refine jq ?_|refine jr ?_|refine js ?_|refine jt ?_|refine ju ?_|refine jv ?_|refine jw ?_|refine jx ?_|refine jy ?_|refine jz ?_|refine jA ?_|refine jB ?_|refine jC ?_|refine jD ?_|refine jE ?_|refine jF ?_|refine jG ?_|refine jH ?_|refine jI ?_|refine jJ ?_|refine jK ?_|refine jL ?_|refine jM (by assumption) ?_|refine jN (by assumption) rfl ?_|refine jO (by assumption) ?_|refine jP (by assumption) rfl ?_|refine jQ ?_|refine jR ?_|refine jS ?_|refine jT ?_|refine jU (by assumption) rfl ?_))
  exact ⟨rfl, k13.trans k4 (fun _ _ h => h)⟩
/-! ### few -/
theorem few31_ret {w : World} {D : Nat → Prop} {a b : Value} {d : Dv} (hu : DvO w D a b d) (h1 : d.disk.length ≤ 100) (h2 : d.pend.length ≤ 60) :
    Ret Try.prog 55 #[.agg ⟨[a, b, vi d.ep]⟩] w (fun r w' => r = vi 1 ∧ Keep w w' No) := by
  obtain ⟨⟨A, c, rfl, _, _⟩, A', c', rfl, _, _⟩ := hu
  refine ok55 _ _ _ ?_
  unfold sh55
  refine M.new_i (l := [.slice A d.disk.length c, .slice A' d.pend.length c', vi d.ep]) (fun w1 b1 k1 s1 => ?_)
  (repeat (first|refine ja ?_|refine jb ?_|refine jc ?_|refine jd ?_|refine je ?_|refine jf ?_|refine jg ?_|refine jh ?_|refine ji ?_|refine jj ?_|refine jk ?_|refine jl ?_|refine jm ?_|refine jn ?_|refine jo ?_|refine jp ?_|refine jq ?_|refine jr ?_|refine js ?_|refine jt ?_|refine ju ?_|refine jv ?_|refine jw ?_|refine jx ?_|refine jy ?_|refine jz ?_|refine jA ?_|refine jB ?_|refine jC ?_|refine jD ?_|refine jE ?_|refine jF ?_|refine jG ?_|refine jH ?_|refine jI ?_|refine jJ ?_|refine jK ?_|refine jL ?_|refine jM (by assumption) ?_|refine jN (by assumption) rfl ?_|refine jO (by assumption) ?_|refine jP (by assumption) rfl ?_|refine jQ ?_|refine jR ?_|refine jS ?_|refine jT ?_|refine jU (by assumption) rfl ?_))
  exact ⟨rfl, k1⟩
theorem few33_ret {w : World} {D : Nat → Prop} {u : Value} {s : St} (hu : StO w D u s) (h0 : s.cells.length ≤ 300) (h1 : s.dev.disk.length ≤ 100) (h2 : s.dev.pend.length ≤ 60) :
    Ret Try.prog 19 #[u] w (fun r w' => r = vi 1 ∧ Keep w w' No) := by
  obtain ⟨h8, c, a, b, rfl, hc, hd⟩ := hu
  obtain ⟨regs, cells, pc, steps, calls, en, code, value, dev⟩ := s
  obtain ⟨r0, r1, r2, r3, r4, r5, r6, r7, rfl⟩ := eight h8
  simp only at hc hd h0 h1 h2
  obtain ⟨A, cc, rfl, _, _⟩ := hc
  refine ok19 _ _ _ ?_
  unfold sh19
  refine M.new_i (l := [vw r0, vw r1, vw r2, vw r3, vw r4, vw r5, vw r6, vw r7, .slice A cells.length cc, vi pc, vi steps, vi calls, vi en, vi code, vw value, a, b, vi dev.ep]) (fun w1 b1 k1 s1 => ?_)
  (repeat (first|refine ja ?_|refine jb ?_|refine jc ?_|refine jd ?_|refine je ?_|refine jf ?_|refine jg ?_|refine jh ?_|refine ji ?_|refine jj ?_|refine jk ?_|refine jl ?_|refine jm ?_|refine jn ?_|refine jo ?_|refine jp ?_|refine jq ?_|refine jr ?_|refine js ?_|refine jt ?_|refine ju ?_|refine jv ?_|refine jw ?_|refine jx ?_|refine jy ?_|refine jz ?_|refine jA ?_|refine jB ?_|refine jC ?_|refine jD ?_|refine jE ?_|refine jF ?_|refine jG ?_|refine jH ?_|refine jI ?_|refine jJ ?_|refine jK ?_|refine jL ?_|refine jM (by assumption) ?_|refine jN (by assumption) rfl ?_|refine jO (by assumption) ?_|refine jP (by assumption) rfl ?_|refine jQ ?_|refine jR ?_|refine jS ?_|refine jT ?_|refine jU (by assumption) rfl ?_))
  refine M.loadA_i b1 (by simp) ?_
  (repeat (first|refine ja ?_|refine jb ?_|refine jc ?_|refine jd ?_|refine je ?_|refine jf ?_|refine jg ?_|refine jh ?_|refine ji ?_|refine jj ?_|refine jk ?_|refine jl ?_|refine jm ?_|refine jn ?_|refine jo ?_|refine jp ?_|refine jq ?_|refine jr ?_|refine js ?_|refine jt ?_|refine ju ?_|refine jv ?_|refine jw ?_|refine jx ?_|refine jy ?_|refine jz ?_|refine jA ?_|refine jB ?_|refine jC ?_|refine jD ?_|refine jE ?_|refine jF ?_|refine jG ?_|refine jH ?_|refine jI ?_|refine jJ ?_|refine jK ?_|refine jL ?_|refine jM (by assumption) ?_|refine jN (by assumption) rfl ?_|refine jO (by assumption) ?_|refine jP (by assumption) rfl ?_|refine jQ ?_|refine jR ?_|refine jS ?_|refine jT ?_|refine jU (by assumption) rfl ?_))
  refine M.call_i (few31_ret (hd.keep k1 (fun _ _ _ h => h)) h1 h2) ?_; rintro _ w2 ⟨rfl, k2⟩
  (repeat (first|refine ja ?_|refine jb ?_|refine jc ?_|refine jd ?_|refine je ?_|refine jf ?_|refine jg ?_|refine jh ?_|refine ji ?_|refine jj ?_|refine jk ?_|refine jl ?_|refine jm ?_|refine jn ?_|refine jo ?_|refine jp ?_|refine jq ?_|refine jr ?_|refine js ?_|refine jt ?_|refine ju ?_|refine jv ?_|refine jw ?_|refine jx ?_|refine jy ?_|refine jz ?_|refine jA ?_|refine jB ?_|refine jC ?_|refine jD ?_|refine jE ?_|refine jF ?_|refine jG ?_|refine jH ?_|refine jI ?_|refine jJ ?_|refine jK ?_|refine jL ?_|refine jM (by assumption) ?_|refine jN (by assumption) rfl ?_|refine jO (by assumption) ?_|refine jP (by assumption) rfl ?_|refine jQ ?_|refine jR ?_|refine jS ?_|refine jT ?_|refine jU (by assumption) rfl ?_))
  exact ⟨rfl, k1.trans k2 (fun _ _ h => h)⟩
/-! ### a start -/
theorem new31_ret {w : World} {D : Nat → Prop} {v : Value} {xs : List W64} (h : LV vw w D v xs) (hf : xs.length ≤ 1000000) :
    Ret Try.prog 17 #[v] w (fun r w' => ∃ a b, r = .agg ⟨[a, b, vi 0]⟩ ∧ DvO w' (w.heap.size ≤ ·) a b ⟨xs, [], 0⟩ ∧ Keep w w' No) := by
  obtain ⟨A, c, rfl, hr, _⟩ := h
  refine ok17 _ _ _ ?_
  unfold sh17
  refine M.new_i (l := [.slice none 0 0, .slice none 0 0, vi 0]) (fun w1 b1 k1 s1 => ?_)
  refine M.append_i (GC.nil w1 (fun _ => False) 1) (hr.keep k1 (fun _ _ _ h => h)) (by simp) (vw_one _) rfl (by omega) (by omega) (fun v2 w2 g2 k2 => ?_)
  have g2 : GW w2 (w1.heap.size ≤ ·) v2 xs := by
    have := g2.mono (L' := (w1.heap.size ≤ ·)) (fun b hb h => by rcases h with h | h; exact h.elim; exact h)
    simpa [GW] using this
  have g2 := GW.lv g2
  obtain ⟨B, c2, rfl, _, _⟩ := id g2
  refine M.pure_i (.agg ⟨[.slice B xs.length c2, .slice none 0 0, vi 0]⟩) (fun _ => by kernel_rfl) ?_
  have b1 := b1.keep k2 (fun h => h)
  refine M.storeAll_i b1 rfl rfl (by intro y hy; simp at hy; rcases hy with rfl | rfl | rfl <;> rfl) (fun w3 b3 k3 s3 => ?_)
  refine M.loadAll_i b3 rfl ?_
  have q1 := k1.size
  refine ⟨_, _, rfl, ⟨(g2.keep k3 (fun b _ hb e => by have hb : w1.heap.size ≤ b := hb; omega)).mono (fun b _ hb => by have hb : w1.heap.size ≤ b := hb; show w.heap.size ≤ b; omega), LN.nil _ _ _⟩, (k1.trans (k2.mono (fun _ _ h => h)) (fun _ _ h => h)).trans k3 (fun b hb h => by omega)⟩
def cellsOk (n : Int) : Nat := if n < 0 ∨ 255 < n then 0 else n.toNat
theorem start33_ret {w : World} {D : Nat → Prop} {a b : Value} {d : Dv} (hd : DvO w D a b d) (n : Int) :
    Ret Try.prog 16 #[.agg ⟨[a, b, vi d.ep]⟩, vi n] w (fun r w' => StO w' (fun x => D x ∨ w.heap.size ≤ x) r ⟨List.replicate 8 0, List.replicate (cellsOk n) 0, 0, 0, 0, 0, 0, 0, d⟩ ∧ Keep w w' No) := by
  obtain ⟨⟨A, c, rfl, hr1, hc1⟩, A', c', rfl, hr2, hc2⟩ := id hd
  refine ok16 _ _ _ _ ?_
  unfold sh16
  refine M.new_i (l := [.slice A d.disk.length c, .slice A' d.pend.length c', vi d.ep]) (fun w1 b1 k1 s1 => ?_)
  refine M.new_i (l := [vw 0, vw 0, vw 0, vw 0, vw 0, vw 0, vw 0, vw 0, .slice none 0 0, vi 0, vi 0, vi 0, vi 0, vi 0, vw 0, .slice none 0 0, .slice none 0 0, vi 0]) (fun w2 b2 k2 s2 => ?_)
  have b1 := b1.keep k2 (fun h => h)
  have k12 := k1.trans k2 (fun _ _ h => h)
  refine M.share_j (fun vals w' => vals = [vi (cellsOk n : Nat)] ∧ w' = w2) ?_ ?_
  · rintro vals w3 ⟨rfl, rfl⟩ _
    simp only [List.getD_cons_zero, List.getD_cons_succ]
    refine M.draw_i ?_
    have b1 : Blk w3.drew w.heap.size [.slice A d.disk.length c, .slice A' d.pend.length c', vi d.ep] := b1
    have b2 : Blk w3.drew w1.heap.size [vw 0, vw 0, vw 0, vw 0, vw 0, vw 0, vw 0, vw 0, .slice none 0 0, vi 0, vi 0, vi 0, vi 0, vi 0, vw 0, .slice none 0 0, .slice none 0 0, vi 0] := b2
    have k13 := k12.trans (Keep.drew w3 No) (fun _ _ h => h)
    refine M.loadAll_i b1 rfl ?_
    have hn : cellsOk n ≤ 255 := by unfold cellsOk; split <;> omega
    refine M.makeSlice_i rfl rfl (by omega) (by omega) (fun w4 b4 k4 s4 => ?_)
    have b1 := b1.keep k4 (fun h => h)
    have b2 := b2.keep k4 (fun h => h)
    refine M.stAll_i b1 rfl ?_
    refine M.pure_i (.agg ⟨[vw 0, vw 0, vw 0, vw 0, vw 0, vw 0, vw 0, vw 0, .slice (some ⟨w3.drew.heap.size, 0, none⟩) (cellsOk n) (cellsOk n), vi 0, vi 0, vi 0, vi 0, vi 0, vw 0, .slice A d.disk.length c, .slice A' d.pend.length c', vi d.ep]⟩) (fun _ => by kernel_rfl) ?_
    refine M.storeAll_i b2 rfl rfl (by intro y hy; simp at hy; rcases hy with rfl | rfl | rfl | rfl | rfl | rfl | rfl | rfl | rfl | rfl <;> rfl) (fun w5 b5 k5 s5 => ?_)
    refine M.loadAll_i b5 rfl ?_
    have e3 : w3.drew.heap.size = w3.heap.size := rfl
    have k05 : Keep w w5 No := (k13.trans k4 (fun _ _ h => h)).trans k5 (fun b hb h => by omega)
    have b4 := b4.keep k5 (fun h => by omega)
    refine ⟨⟨rfl, .slice (some ⟨w3.drew.heap.size, 0, none⟩) (cellsOk n) (cellsOk n), _, _, rfl, ?_, (hd.keep k05 (fun _ _ _ h => h)).mono (fun b _ h => .inl h)⟩, k05⟩
    have b4' : Blk w5 w3.drew.heap.size ((List.replicate (cellsOk n) (0 : W64)).map vw) := by rw [List.map_replicate]; exact b4
    have q12 := k12.size
    refine ⟨some ⟨w3.drew.heap.size, 0, none⟩, cellsOk n, by simp, Row.of_blk' b4' (.inr (by omega)), by simp⟩
  · intro K hK
    unfold cellsOk at hK
    by_cases h1 : n < 0
    · rw [if_pos (.inl h1)] at hK
      (repeat (first|refine ja ?_|refine jb ?_|refine jc ?_|refine jd ?_|refine je ?_|refine jf ?_|refine jg ?_|refine jh ?_|refine ji ?_|refine jj ?_|refine jk ?_|refine jl ?_|refine jm ?_|refine jn ?_|refine jo ?_|refine jp ?_|refine jq ?_|refine jr ?_|refine js ?_|refine jt ?_|refine ju ?_|refine jv ?_|refine jw ?_|refine jx ?_|refine jy ?_|refine jz ?_|refine jA ?_|refine jB ?_|refine jC ?_|refine jD ?_|refine jE ?_|refine jF ?_|refine jG ?_|refine jH ?_|refine jI ?_|refine jJ ?_|refine jK ?_|refine jL ?_|refine jM (by assumption) ?_|refine jN (by assumption) rfl ?_|refine jO (by assumption) ?_|refine jP (by assumption) rfl ?_|refine jQ ?_|refine jR ?_|refine jS ?_|refine jT ?_|refine jU (by assumption) rfl ?_))
      exact hK _ _ ⟨rfl, rfl⟩
    · by_cases h2 : 255 < n
      · rw [if_pos (.inr h2)] at hK
        (repeat (first|refine ja ?_|refine jb ?_|refine jc ?_|refine jd ?_|refine je ?_|refine jf ?_|refine jg ?_|refine jh ?_|refine ji ?_|refine jj ?_|refine jk ?_|refine jl ?_|refine jm ?_|refine jn ?_|refine jo ?_|refine jp ?_|refine jq ?_|refine jr ?_|refine js ?_|refine jt ?_|refine ju ?_|refine jv ?_|refine jw ?_|refine jx ?_|refine jy ?_|refine jz ?_|refine jA ?_|refine jB ?_|refine jC ?_|refine jD ?_|refine jE ?_|refine jF ?_|refine jG ?_|refine jH ?_|refine jI ?_|refine jJ ?_|refine jK ?_|refine jL ?_|refine jM (by assumption) ?_|refine jN (by assumption) rfl ?_|refine jO (by assumption) ?_|refine jP (by assumption) rfl ?_|refine jQ ?_|refine jR ?_|refine jS ?_|refine jT ?_|refine jU (by assumption) rfl ?_))
        exact hK _ _ ⟨rfl, rfl⟩
      · rw [if_neg (by omega)] at hK
        (repeat (first|refine ja ?_|refine jb ?_|refine jc ?_|refine jd ?_|refine je ?_|refine jf ?_|refine jg ?_|refine jh ?_|refine ji ?_|refine jj ?_|refine jk ?_|refine jl ?_|refine jm ?_|refine jn ?_|refine jo ?_|refine jp ?_|refine jq ?_|refine jr ?_|refine js ?_|refine jt ?_|refine ju ?_|refine jv ?_|refine jw ?_|refine jx ?_|refine jy ?_|refine jz ?_|refine jA ?_|refine jB ?_|refine jC ?_|refine jD ?_|refine jE ?_|refine jF ?_|refine jG ?_|refine jH ?_|refine jI ?_|refine jJ ?_|refine jK ?_|refine jL ?_|refine jM (by assumption) ?_|refine jN (by assumption) rfl ?_|refine jO (by assumption) ?_|refine jP (by assumption) rfl ?_|refine jQ ?_|refine jR ?_|refine jS ?_|refine jT ?_|refine jU (by assumption) rfl ?_))
        exact hK _ _ ⟨by rw [show ((n.toNat : Nat) : Int) = n by omega], rfl⟩
end Go.Proofs.Ytgbodhibflpgmaa
