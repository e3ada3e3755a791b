import Derived.Test.YtgbodhibflpgmaaSym36b
namespace Go.Proofs.Ytgbodhibflpgmaa
open Go.Mw Go.Maps Go.MapKept
set_option linter.unusedVariables false
set_option linter.unusedSimpArgs false
set_option maxRecDepth 100000
attribute [local irreducible] M.val M.unit M.next M.pick M.new M.nilCheck M.load1 M.loadA M.store M.fieldAddr M.indexSl M.indexArr M.slice M.makeSlice M.buildSlice M.len M.lenS M.cap M.append M.extract M.conv M.not M.neg M.bin M.shift M.eqB M.eqNil M.call M.callv M.gd M.share M.cond M.loop M.draw pureW readW Ret
/-! breakwater/sym.Of: function 15 -/
def sh15 (x0 x1 x2 : Value) (R : Kt) (w : World) : Prop :=
  M.new 35 (Value.cells x1) (fun t4 w =>
  M.new 44 #[.int .u64 0, .int .u64 0, .int .u64 0, .int .u64 0, .int .u64 0, .int .u64 0, .int .u64 0, .int .u64 0, .slice none 0 0, .int .i64 0, .int .i64 0, .int .i64 0, .int .i64 0, .int .i64 0, .int .u64 0, .slice none 0 0, .slice none 0 0, .int .i64 0] (fun t6 w =>
  pureW Try.prog (Instr.build 98 #[(0, x0), (1, x2)]) (fun t18 w =>
  M.new 98 (Value.cells t18) (fun t19 w =>
  M.share (fun K1 w =>
  M.draw (fun w =>
  M.fieldAddr 8 t4 (fun t20 w =>
  M.load1 t20 (fun t21 w =>
  M.fieldAddr 9 t4 (fun t25 w =>
  M.load1 t25 (fun t26 w =>
  M.fieldAddr 10 t4 (fun t27 w =>
  M.load1 t27 (fun t28 w =>
  M.fieldAddr 11 t4 (fun t29 w =>
  M.load1 t29 (fun t30 w =>
  M.fieldAddr 12 t4 (fun t31 w =>
  M.load1 t31 (fun t32 w =>
  M.fieldAddr 13 t4 (fun t33 w =>
  M.load1 t33 (fun t34 w =>
  M.fieldAddr 15 t4 (fun t36 w =>
  M.loadA 3 t36 (fun t37 w =>
  ((M.call Try.prog 52 #[t21, (.func (Fn.func 53) #[t19] #[])] (fun t24 w =>
  ((M.loadA 3 t36 (fun v' _ => v' = t37) w) ∧ ((M.load1 t33 (fun v' _ => v' = t34) w) ∧ ((M.load1 t31 (fun v' _ => v' = t32) w) ∧ ((M.load1 t29 (fun v' _ => v' = t30) w) ∧ ((M.load1 t27 (fun v' _ => v' = t28) w) ∧ ((M.load1 t25 (fun v' _ => v' = t26) w) ∧ ((M.call Try.prog 54 #[t19, t37] (fun t38 w =>
  ((M.load1 t33 (fun v' _ => v' = t34) w) ∧ ((M.load1 t31 (fun v' _ => v' = t32) w) ∧ ((M.load1 t29 (fun v' _ => v' = t30) w) ∧ ((M.load1 t27 (fun v' _ => v' = t28) w) ∧ ((M.load1 t25 (fun v' _ => v' = t26) w) ∧ pureW Try.prog (Instr.build 44 #[(1, t24), (2, t26), (3, t28), (4, t30), (5, t32), (6, t34), (8, t38)]) (fun t39 w =>
  M.new 44 #[.int .u64 0, .int .u64 0, .int .u64 0, .int .u64 0, .int .u64 0, .int .u64 0, .int .u64 0, .int .u64 0, .slice none 0 0, .int .i64 0, .int .i64 0, .int .i64 0, .int .i64 0, .int .i64 0, .int .u64 0, .slice none 0 0, .slice none 0 0, .int .i64 0] (fun t10 w =>
  ((M.load1 t33 (fun v' _ => v' = t34) w) ∧ ((M.load1 t31 (fun v' _ => v' = t32) w) ∧ ((M.load1 t29 (fun v' _ => v' = t30) w) ∧ ((M.load1 t27 (fun v' _ => v' = t28) w) ∧ ((M.load1 t25 (fun v' _ => v' = t26) w) ∧ M.store 18 t10 t39 (fun _ w =>
  K1 [t10] w) w)))))) w) w)))))) w) ∧
   (M.new 44 #[.int .u64 0, .int .u64 0, .int .u64 0, .int .u64 0, .int .u64 0, .int .u64 0, .int .u64 0, .int .u64 0, .slice none 0 0, .int .i64 0, .int .i64 0, .int .i64 0, .int .i64 0, .int .i64 0, .int .u64 0, .slice none 0 0, .slice none 0 0, .int .i64 0] (fun t10_2 w =>
  ((M.loadA 3 t36 (fun v' _ => v' = t37) w) ∧ ((M.load1 t33 (fun v' _ => v' = t34) w) ∧ ((M.load1 t31 (fun v' _ => v' = t32) w) ∧ ((M.load1 t29 (fun v' _ => v' = t30) w) ∧ ((M.load1 t27 (fun v' _ => v' = t28) w) ∧ ((M.load1 t25 (fun v' _ => v' = t26) w) ∧ M.call Try.prog 54 #[t19, t37] (fun t38_2 w =>
  ((M.load1 t33 (fun v' _ => v' = t34) w) ∧ ((M.load1 t31 (fun v' _ => v' = t32) w) ∧ ((M.load1 t29 (fun v' _ => v' = t30) w) ∧ ((M.load1 t27 (fun v' _ => v' = t28) w) ∧ ((M.load1 t25 (fun v' _ => v' = t26) w) ∧ pureW Try.prog (Instr.build 44 #[(1, t24), (2, t26), (3, t28), (4, t30), (5, t32), (6, t34), (8, t38_2)]) (fun t39_2 w =>
  M.store 18 t10_2 t39_2 (fun _ w =>
  K1 [t10_2] w) w) w)))))) w))))))) w))))))))) w) ∧
   (M.new 44 #[.int .u64 0, .int .u64 0, .int .u64 0, .int .u64 0, .int .u64 0, .int .u64 0, .int .u64 0, .int .u64 0, .slice none 0 0, .int .i64 0, .int .i64 0, .int .i64 0, .int .i64 0, .int .i64 0, .int .u64 0, .slice none 0 0, .slice none 0 0, .int .i64 0] (fun t10_3 w =>
  ((M.loadA 3 t36 (fun v' _ => v' = t37) w) ∧ ((M.load1 t33 (fun v' _ => v' = t34) w) ∧ ((M.load1 t31 (fun v' _ => v' = t32) w) ∧ ((M.load1 t29 (fun v' _ => v' = t30) w) ∧ ((M.load1 t27 (fun v' _ => v' = t28) w) ∧ ((M.load1 t25 (fun v' _ => v' = t26) w) ∧ ((M.load1 t20 (fun v' _ => v' = t21) w) ∧ M.call Try.prog 52 #[t21, (.func (Fn.func 53) #[t19] #[])] (fun t24_2 w =>
  ((M.loadA 3 t36 (fun v' _ => v' = t37) w) ∧ ((M.load1 t33 (fun v' _ => v' = t34) w) ∧ ((M.load1 t31 (fun v' _ => v' = t32) w) ∧ ((M.load1 t29 (fun v' _ => v' = t30) w) ∧ ((M.load1 t27 (fun v' _ => v' = t28) w) ∧ ((M.load1 t25 (fun v' _ => v' = t26) w) ∧ M.call Try.prog 54 #[t19, t37] (fun t38_3 w =>
  ((M.load1 t33 (fun v' _ => v' = t34) w) ∧ ((M.load1 t31 (fun v' _ => v' = t32) w) ∧ ((M.load1 t29 (fun v' _ => v' = t30) w) ∧ ((M.load1 t27 (fun v' _ => v' = t28) w) ∧ ((M.load1 t25 (fun v' _ => v' = t26) w) ∧ pureW Try.prog (Instr.build 44 #[(1, t24_2), (2, t26), (3, t28), (4, t30), (5, t32), (6, t34), (8, t38_3)]) (fun t39_3 w =>
  M.store 18 t10_3 t39_3 (fun _ w =>
  K1 [t10_3] w) w) w)))))) w))))))) w)))))))) w))) w) w) w) w) w) w) w) w) w) w) w) w) w) w) w) (fun s1 w => ∀ _ : List Value,
  M.fieldAddr 0 t4 (fun t40 w =>
  M.loadA 8 t40 (fun t41 w =>
  M.loop [(Value.int IntKind.i64 0)] (fun s2 K2 w => ∀ _ : List Value,
  M.bin .lss (s2.getD 0 undef) (Value.int IntKind.i64 8) (fun t43 w =>
  M.cond t43
  (pureW Try.prog (Instr.index 33 t41 (s2.getD 0 undef)) (fun t45 w =>
  M.call Try.prog 53 #[t19, t45] (fun t49 w =>
  M.fieldAddr 0 (s1.getD 0 undef) (fun t50 w =>
  M.indexArr 8 1 t50 (s2.getD 0 undef) (fun t51 w =>
  M.store 1 t51 t49 (fun _ w =>
  M.bin .add (s2.getD 0 undef) (Value.int IntKind.i64 1) (fun t52 w =>
  K2 [t52] w) w) w) w) w) w) w)
  (M.share (fun K3 w =>
  M.fieldAddr 12 t4 (fun t53 w =>
  M.load1 t53 (fun t54 w =>
  M.bin .eql t54 (Value.int IntKind.i64 1) (fun t55 w =>
  M.cond t55
  (M.fieldAddr 14 t4 (fun t57 w =>
  M.load1 t57 (fun t58 w =>
  M.call Try.prog 53 #[t19, t58] (fun t59 w =>
  M.fieldAddr 14 (s1.getD 0 undef) (fun t60 w =>
  M.store 1 t60 t59 (fun _ w =>
  K3 [] w) w) w) w) w) w)
  (K3 [] w)) w) w) w) (fun s3 w => ∀ _ : List Value,
  M.fieldAddr 18 t4 (fun t61 w =>
  M.load1 t61 (fun t62 w =>
  M.call Try.prog 52 #[t62, (.func (Fn.func 53) #[t19] #[])] (fun t65 w =>
  M.len t65 (fun t66 w =>
  M.loop [(Value.bool true), (Value.int IntKind.i64 0)] (fun s4 K4 w => ∀ _ : List Value,
  M.bin .lss (s4.getD 1 undef) t66 (fun t68 w =>
  M.cond t68
  (M.indexSl 1 t65 (s4.getD 1 undef) (fun t69 w =>
  M.load1 t69 (fun t70 w =>
  M.gd (s4.getD 0 undef) true (fun k w => k t70 w) (fun t73 w =>
  M.gd (s4.getD 0 undef) true (fun k w => M.bin .eql t73 (Value.int IntKind.u64 1) k w) (fun t74 w =>
  M.pick (s4.getD 0 undef) t74 (Value.bool false) (fun t75 w =>
  M.bin .add (s4.getD 1 undef) (Value.int IntKind.i64 1) (fun t76 w =>
  K4 [t75, t76] w) w) w) w) w) w) w)
  (M.nilCheck t19 (fun t78 w =>
  M.fieldAddr 2 t78 (fun t79 w =>
  M.load1 t79 (fun t80 w =>
  M.cond t80
  (pureW Try.prog (Instr.build 44 #[]) (fun t81 w =>
  M.store 18 t6 t81 (fun _ w =>
  M.loadA 18 t6 (fun r0 w => R (.tuple #[r0, (Value.bool false), (Value.int IntKind.i64 11)]) w) w) w) w)
  (M.loadA 18 (s1.getD 0 undef) (fun t82 w =>
  M.store 18 t6 t82 (fun _ w =>
  M.loadA 18 t6 (fun r0 w => R (.tuple #[r0, (s4.getD 0 undef), (Value.int IntKind.i64 0)]) w) w) w) w)) w) w) w)) w) w) w) w) w) w) w)) w) w) w) w) w) w) w) w) w
theorem ok15 (x0 x1 x2 : Value) (R : Kt) (w : World) (h : sh15 x0 x1 x2 R w) : Ret Try.prog 15 #[x0, x1, x2] w R :=
  ret_mk <| calls_of_comp mixed (c := Try.f15.body.getD .skip) (args := [x0, x1, x2]) (rs := [(ResultVar.cell 6 44), (ResultVar.tmp 7), (ResultVar.tmp 8)]) (Ann.seq Ann.text (Ann.seq Ann.text (Ann.join [10] [20, 21, 22, 23, 24, 25, 26, 27, 28, 29, 30, 31, 32, 33, 34, 35, 36, 37, 38, 39] (Ann.draw (Sch.take 0 (Sch.take 1 (Sch.take 2 (Sch.take 3 (Sch.take 5 (Sch.take 6 (Sch.take 7 (Sch.take 8 (Sch.take 9 (Sch.take 10 (Sch.take 11 (Sch.take 12 (Sch.take 13 (Sch.take 14 (Sch.take 15 (Sch.take 16 (Sch.take 17 (Sch.two 4 20 (Sch.two 18 20 (Sch.take 19 (Sch.one 20 (Sch.one 21 Sch.done))) (Sch.one 18 (Sch.take 19 (Sch.one 21 Sch.done)))) (Sch.one 4 (Sch.one 18 (Sch.take 19 (Sch.one 21 Sch.done))))))))))))))))))))))) (Ann.seq (Ann.seq Ann.text (Ann.block (Ann.loop [42] [11, 12, 43, 44, 45, 46, 47, 48, 49, 50, 51, 52] (Ann.seq Ann.text (Ann.seq (Ann.cond Ann.leaf Ann.leaf) (Ann.seq (Ann.block (Ann.seq Ann.text Ann.text)) Ann.text)))))) (Ann.join [] [53, 54, 55, 56, 57, 58, 59, 60] (Ann.seq Ann.text (Ann.cond Ann.text Ann.leaf)) (Ann.seq Ann.text (Ann.seq (Ann.seq Ann.text (Ann.block (Ann.loop [13, 67] [15, 68, 69, 70, 71, 72, 73, 74, 75, 76] (Ann.seq Ann.text (Ann.seq (Ann.cond Ann.leaf Ann.leaf) (Ann.seq (Ann.block (Ann.seq Ann.text Ann.text)) Ann.text)))))) (Ann.seq (Ann.seq Ann.text (Ann.cond (Ann.seq Ann.text Ann.leaf) Ann.leaf)) (Ann.seq Ann.text Ann.leaf)))))))))
    Try.func15 (by kernel_rfl) (by kernel_rfl)
    (Eq.mp (by kernel_rfl) h)
/-! breakwater/sym.DeviceOf: function 23 -/
def sh23 (x0 x1 x2 : Value) (R : Kt) (w : World) : Prop :=
  M.new 29 (Value.cells x1) (fun t4 w =>
  M.new 42 #[.slice none 0 0, .slice none 0 0, .int .i64 0] (fun t6 w =>
  pureW Try.prog (Instr.build 98 #[(0, x0), (1, x2)]) (fun t12 w =>
  M.new 98 (Value.cells t12) (fun t13 w =>
  M.loadA 3 t4 (fun t15 w =>
  M.call Try.prog 54 #[t13, t15] (fun t16 w =>
  M.new 42 #[.slice none 0 0, .slice none 0 0, .int .i64 0] (fun t9 w =>
  M.store 3 t9 t16 (fun _ w =>
  M.nilCheck t13 (fun t18 w =>
  M.fieldAddr 2 t18 (fun t19 w =>
  M.load1 t19 (fun t20 w =>
  M.cond t20
  (pureW Try.prog (Instr.build 42 #[]) (fun t21 w =>
  M.store 3 t6 t21 (fun _ w =>
  M.loadA 3 t6 (fun r0 w => R (.tuple #[r0, (Value.int IntKind.i64 11)]) w) w) w) w)
  (M.loadA 3 t9 (fun t22 w =>
  M.store 3 t6 t22 (fun _ w =>
  M.loadA 3 t6 (fun r0 w => R (.tuple #[r0, (Value.int IntKind.i64 0)]) w) w) w) w)) w) w) w) w) w) w) w) w) w) w) w
theorem ok23 (x0 x1 x2 : Value) (R : Kt) (w : World) (h : sh23 x0 x1 x2 R w) : Ret Try.prog 23 #[x0, x1, x2] w R :=
  ret_mk <| calls_of_comp mixed (c := Try.f23.body.getD .skip) (args := [x0, x1, x2]) (rs := [(ResultVar.cell 6 42), (ResultVar.tmp 7)]) (Ann.seq Ann.text (Ann.seq Ann.text (Ann.seq Ann.text (Ann.seq (Ann.seq Ann.text (Ann.cond (Ann.seq Ann.text Ann.leaf) Ann.leaf)) (Ann.seq Ann.text Ann.leaf)))))
    Try.func23 (by kernel_rfl) (by kernel_rfl)
    (Eq.mp (by kernel_rfl) h)

theorem M.arr_i {k : Kt} {w : World} {len : Nat} {d : IntKind} {i : Int} {b o : Nat} (h0 : 0 ≤ i) (h1 : i < len) (h : k (.pointer (some ⟨b, o + i.toNat * 1, none⟩)) w) : M.indexArr len 1 (.pointer (some ⟨b, o, none⟩)) (.int d i) k w := by
  unfold M.indexArr; simp only [add_mk]; exact ⟨⟨h0, h1⟩, h⟩
theorem M.stA_i {w : World} {b o n : Nat} {l : List Value} {X : Prop} (hb : Blk w b l) (hn : o + n ≤ l.length) (h : X) :
    M.loadA n (.pointer (some ⟨b, o, none⟩)) (fun v' _ => v' = .agg ⟨(l.drop o).take n⟩) w ∧ X := ⟨M.loadA_i hb hn rfl, h⟩
theorem M.loadP_i {k : Kt} {w : World} {b o n : Nat} {l r : List Value} (hb : Blk w b l) (hn : o + n ≤ l.length) (hr : (l.drop o).take n = r) (h : k (.agg ⟨r⟩) w) : M.loadA n (.pointer (some ⟨b, o, none⟩)) k w := by
  subst hr; exact M.loadA_i hb hn h
theorem fill_set {xs ys tail : List Value} {i : Nat} (h : xs.length = ys.length) (hi : i < xs.length) : (xs.take i ++ ys.drop i ++ tail).set i xs[i] = xs.take (i + 1) ++ ys.drop (i + 1) ++ tail := by
  rw [List.append_assoc, List.set_append_right _ _ (by simp; omega), List.length_take, Nat.min_eq_left (by omega), Nat.sub_self, List.take_succ_eq_append_getElem hi, List.append_assoc, List.append_assoc, List.drop_eq_getElem_cons (by omega : i < ys.length)]
  rfl
theorem idx8 {rs : List Int} (h : rs.length = 8) {i : Nat} (hi : i < 8) (w : World) : (Instr.index 33 (.agg ⟨rs.map vi⟩) (vi i)).run Try.prog w = .ok (vi (rs[i]'(by omega))) w := by
  obtain ⟨r0, r1, r2, r3, r4, r5, r6, r7, rfl⟩ := eight h
  match i, hi with
  | 0, _ => show (Instr.index 33 (.agg #[vi r0, vi r1, vi r2, vi r3, vi r4, vi r5, vi r6, vi r7]) (vi 0)).run Try.prog w = .ok (vi r0) w; kernel_rfl
  | 1, _ => show (Instr.index 33 (.agg #[vi r0, vi r1, vi r2, vi r3, vi r4, vi r5, vi r6, vi r7]) (vi 1)).run Try.prog w = .ok (vi r1) w; kernel_rfl
  | 2, _ => show (Instr.index 33 (.agg #[vi r0, vi r1, vi r2, vi r3, vi r4, vi r5, vi r6, vi r7]) (vi 2)).run Try.prog w = .ok (vi r2) w; kernel_rfl
  | 3, _ => show (Instr.index 33 (.agg #[vi r0, vi r1, vi r2, vi r3, vi r4, vi r5, vi r6, vi r7]) (vi 3)).run Try.prog w = .ok (vi r3) w; kernel_rfl
  | 4, _ => show (Instr.index 33 (.agg #[vi r0, vi r1, vi r2, vi r3, vi r4, vi r5, vi r6, vi r7]) (vi 4)).run Try.prog w = .ok (vi r4) w; kernel_rfl
  | 5, _ => show (Instr.index 33 (.agg #[vi r0, vi r1, vi r2, vi r3, vi r4, vi r5, vi r6, vi r7]) (vi 5)).run Try.prog w = .ok (vi r5) w; kernel_rfl
  | 6, _ => show (Instr.index 33 (.agg #[vi r0, vi r1, vi r2, vi r3, vi r4, vi r5, vi r6, vi r7]) (vi 6)).run Try.prog w = .ok (vi r6) w; kernel_rfl
  | 7, _ => show (Instr.index 33 (.agg #[vi r0, vi r1, vi r2, vi r3, vi r4, vi r5, vi r6, vi r7]) (vi 7)).run Try.prog w = .ok (vi r7) w; kernel_rfl
def stOf (N : List Nd) (env : List W64) (s : Sy) : St :=
  ⟨s.regs.map (valW N env), s.cells.map (valW N env), s.pc, s.steps, s.calls, s.en, s.code, if s.en = 1 then valW N env s.value else 0, devOf N env s.dev⟩
def stBad (N : List Nd) (s : Sy) : Bool :=
  ((((s.cells.any (fun i => !isN N i) || devBad N s.dev) || s.regs.any (fun i => !isN N i)) || (decide (s.en = 1) && !isN N s.value)) || s.conds.any (fun i => !isN N i))
def stHolds (N : List Nd) (env : List W64) (s : Sy) : Bool := (s.conds.map (valW N env)).all (fun x => decide (x = 1))
def St0 : St := ⟨List.replicate 8 0, [], 0, 0, 0, 0, 0, 0, ⟨[], [], 0⟩⟩
def Sy.few (s : Sy) : Prop := s.cells.length ≤ 1000000 ∧ s.dev.few ∧ s.conds.length ≤ 1000000
abbrev zSt : List Value := [vw 0, vw 0, vw 0, vw 0, vw 0, vw 0, vw 0, vw 0, .slice none 0 0, vi 0, vi 0, vi 0, vi 0, vi 0, vw 0, .slice none 0 0, .slice none 0 0, vi 0]
theorem st0_o (w : World) (D : Nat → Prop) : StO w D (.agg ⟨zSt⟩) St0 := ⟨rfl, _, _, _, rfl, LV.nil _ _ _, LV.nil _ _ _, LN.nil _ _ _⟩
theorem Rdr.keep' {w w' : World} {F De : Nat → Prop} {p rb pn : Nat} {N : List Nd} {most : Int} {ev : Value} {env : List W64} {bad : Bool} (h : Rdr w F p N most De ev env rb bad) (k : Keep w w' (· = pn)) (hr : rb ≠ pn) (hF : ¬ F pn) (hD : ¬ De pn) : Rdr w' F p N most De ev env rb bad :=
  ⟨h.dag.keep k (fun b hb h' => hF (h' ▸ hb)), h.words.keep k (fun b _ hb h' => hD (h' ▸ hb)), h.blk.keep k hr, h.nF, h.nD, h.small⟩
section
variable {w : World} {F De : Nat → Prop} {p : Nat} {N : List Nd} {most : Int} {ev : Value} {env : List W64}
set_option maxHeartbeats 4000000 in
theorem of_ret {D : Nat → Prop} {sv : Value} {s : Sy} (hd : DagO w F p N most) (he : LV vw w De ev env) (hel : env.length ≤ 1000000) (hs : SyO w D sv s) (hf : s.few) :
    Ret Try.prog 15 #[ptr p, sv, ev] w (fun r w' => ∃ v, r = .tuple #[v, .bool (if stBad N s then false else stHolds N env s), vi (if stBad N s then 11 else 0)] ∧ StO w' (w.heap.size ≤ ·) v (if stBad N s then St0 else stOf N env s) ∧ Keep w w' No) := by
  obtain ⟨hf1, hf2, hf3⟩ := hf
  have hs := hs.mono (D' := fun b => D b ∧ b < w.heap.size) (fun b hb h => ⟨h, hb⟩)
  have he := he.mono (D' := fun b => De b ∧ b < w.heap.size) (fun b hb h => ⟨h, hb⟩)
  obtain ⟨h8, c, a, b, cd, rfl, hc, hdv, hcd⟩ := hs
  obtain ⟨regs, cells, pc, steps, calls, en, code, value, dev, conds⟩ := s
  simp only at h8 hc hdv hcd hf1 hf2 hf3
  obtain ⟨E, ce, rfl, _, _⟩ := id he
  refine ok15 _ _ _ _ _ ?_
  unfold sh15
  have he8 := eight h8
  obtain ⟨r0, r1, r2, r3, r4, r5, r6, r7, hrs⟩ := he8
  have hvals : Sy.vals ⟨regs, cells, pc, steps, calls, en, code, value, dev, conds⟩ c a b cd = [vi r0, vi r1, vi r2, vi r3, vi r4, vi r5, vi r6, vi r7, c, vi pc, vi steps, vi calls, vi en, vi code, vi value, a, b, vi dev.ep, cd] := by rw [hrs]; rfl
  rw [hvals]
  refine M.new_i (l := [vi r0, vi r1, vi r2, vi r3, vi r4, vi r5, vi r6, vi r7, c, vi pc, vi steps, vi calls, vi en, vi code, vi value, a, b, vi dev.ep, cd]) (fun w1 b1 k1 s1 => ?_)
  refine M.new_i (l := zSt) (fun w2 b2 k2 s2 => ?_)
  have b1 := b1.keep k2 (fun h => h)
  refine M.pure_i (.agg ⟨[ptr p, .slice E env.length ce, .bool false]⟩) (fun _ => by kernel_rfl) ?_
  refine M.new_i (l := [ptr p, .slice E env.length ce, .bool false]) (fun w3 b3 k3 s3 => ?_)
  have b1 := b1.keep k3 (fun h => h)
  have b2 := b2.keep k3 (fun h => h)
  have k03 := (k1.trans k2 (fun _ _ h => h)).trans k3 (fun _ _ h => h)
  have hR : Rdr w3 F p N most (fun b => De b ∧ b < w.heap.size) (.slice E env.length ce) env w2.heap.size false :=
    ⟨hd.keepN k03, he.keep k03 (fun _ _ _ h => h), b3, fun h => by have := hd.lt h; omega, fun h => by have := h.2; omega, hel⟩
  have hc := hc.keep k03 (fun _ _ _ h => h)
  have hdv := hdv.keep k03 (fun _ _ _ h => h)
  have hcd := hcd.keep k03 (fun _ _ _ h => h)
  have hDr : ¬ (D w2.heap.size ∧ w2.heap.size < w.heap.size) := fun h => by have := h.2; omega
  clear he
  refine M.share_j (fun vals w' => ∃ pn cs da db, vals = [ptr pn] ∧ w3.heap.size ≤ pn ∧ Blk w' pn [vw 0, vw 0, vw 0, vw 0, vw 0, vw 0, vw 0, vw 0, cs, vi pc, vi steps, vi calls, vi en, vi code, vw 0, da, db, vi dev.ep] ∧ LV vw w' (fun b => w3.heap.size ≤ b ∧ b ≠ pn) cs (cells.map (valW N env)) ∧ DvO w' (fun b => w3.heap.size ≤ b ∧ b ≠ pn) da db (devOf N env dev) ∧ Rdr w' F p N most (fun b => De b ∧ b < w.heap.size) (.slice E env.length ce) env w2.heap.size ((false || cells.any (fun i => !isN N i)) || devBad N dev) ∧ Keep w3 w' (· = w2.heap.size)) ?_ ?_
  · rintro vals w4 ⟨pn, cs, da, db, rfl, hpn, bn, hcs, hdd, h4, k4⟩ _
    simp only [List.getD_cons_zero, List.getD_cons_succ]
    have b1 := b1.keep k4 (fun h => by omega)
    have b2 := b2.keep k4 (fun h => by omega)
    have hcd := hcd.keep k4 (fun b hb h e => by have := h.2; omega)
    have q4 := k4.size
    have hpl := bn.lt
    refine M.field_i ?_
    refine M.loadP_i (r := regs.map vi) b1 (by simp) (by rw [hrs]; rfl) ?_
    refine M.loop_i (σ := Nat) (fun n vals w' => ∃ i : Nat, n = 8 - i ∧ i ≤ 8 ∧ vals = [vi i] ∧ Blk w' pn (((regs.map (valW N env)).map vw).take i ++ (List.replicate 8 (vw 0)).drop i ++ [cs, vi pc, vi steps, vi calls, vi en, vi code, vw 0, da, db, vi dev.ep]) ∧ Rdr w' F p N most (fun b => De b ∧ b < w.heap.size) (.slice E env.length ce) env w2.heap.size (((false || cells.any (fun i => !isN N i)) || devBad N dev) || (regs.take i).any (fun i => !isN N i)) ∧ Keep w4 w' (fun b => b = w2.heap.size ∨ b = pn)) id 8
      ⟨0, rfl, by omega, rfl, bn, by simpa using h4, Keep.refl _ _⟩ ?_
    rintro n vals w5 K ⟨i, rfl, hi, rfl, bn5, h5, k5⟩ hK _
    simp only [List.getD_cons_zero, List.getD_cons_succ]
    by_cases hlt : i < 8
    · refine M.lss_t (by omega) ?_
      refine M.cond_t ?_
      refine M.pure_i (vi (regs[i]'(by omega))) (idx8 h8 hlt) ?_
      refine M.call_i (word_ret h5 _) ?_; rintro _ w6 ⟨rfl, h6, k6⟩
      have bn6 := bn5.keep k6 (fun h => by omega)
      refine M.field_i ?_
      refine M.arr_i (by omega) (by omega) ?_
      have e0 : 0 + 0 + (i : Int).toNat * 1 = i := by omega
      rw [e0]
      refine M.store_i bn6 (by simp; omega) rfl (fun w7 b7 k7 s7 => ?_)
      have hW : ((regs.map (valW N env)).map vw).length = (List.replicate 8 (vw 0)).length := by simp [h8]
      have hiW : i < ((regs.map (valW N env)).map vw).length := by simp [h8]; omega
      have fs := fill_set (tail := [cs, vi pc, vi steps, vi calls, vi en, vi code, vw 0, da, db, vi dev.ep]) hW hiW
      rw [show ((regs.map (valW N env)).map vw)[i] = vw (valW N env (regs[i]'(by omega))) by simp] at fs
      rw [fs] at b7
      refine M.add_i (by omega) (by omega) ?_
      have et : regs.take (i + 1) = regs.take i ++ [regs[i]'(by omega)] := List.take_succ_eq_append_getElem (by omega)
      refine hK (8 - (i + 1)) _ _ (by show 8 - (i + 1) < 8 - i; omega) ⟨i + 1, rfl, by omega, rfl, b7, ?_, ?_⟩
      · rw [et, List.any_append, List.any_cons, List.any_nil, Bool.or_false, ← Bool.or_assoc]
        exact h6.keep' k7 (fun h => by omega) (fun h => by have := hd.lt h; have := k03.size; omega) (fun h => by have := h.2; have := k03.size; omega)
      · exact (k5.trans k6 (fun _ _ h => .inl h)).trans k7 (fun _ _ h => .inr h)
    · have : i = 8 := by omega
      subst this
      have bn5 : Blk w5 pn [vw (valW N env r0), vw (valW N env r1), vw (valW N env r2), vw (valW N env r3), vw (valW N env r4), vw (valW N env r5), vw (valW N env r6), vw (valW N env r7), cs, vi pc, vi steps, vi calls, vi en, vi code, vw 0, da, db, vi dev.ep] := by rw [hrs] at bn5; exact bn5
      rw [show regs.take 8 = regs by rw [← h8, List.take_length]] at h5
      have b1 := b1.keep k5 (fun h => by omega)
      have b2 := b2.keep k5 (fun h => by omega)
      have hcd := hcd.keep k5 (fun b hb h e => by have := h.2; have := k03.size; omega)
      clear hK
      refine M.lss_f (by omega) ?_
      refine M.cond_f ?_
      refine M.share_j (fun vals w' => Blk w' pn [vw (valW N env r0), vw (valW N env r1), vw (valW N env r2), vw (valW N env r3), vw (valW N env r4), vw (valW N env r5), vw (valW N env r6), vw (valW N env r7), cs, vi pc, vi steps, vi calls, vi en, vi code, vw (if en = 1 then valW N env value else 0), da, db, vi dev.ep] ∧ Rdr w' F p N most (fun b => De b ∧ b < w.heap.size) (.slice E env.length ce) env w2.heap.size ((((false || cells.any (fun i => !isN N i)) || devBad N dev) || regs.any (fun i => !isN N i)) || (decide (en = 1) && !isN N value)) ∧ Keep w5 w' (fun b => b = w2.heap.size ∨ b = pn)) ?_ ?_
      · rintro vals w6 ⟨bn6, h6, k6⟩ _
        have b1 := b1.keep k6 (fun h => by omega)
        have b2 := b2.keep k6 (fun h => by omega)
        have hcd := hcd.keep k6 (fun b hb h e => by have := h.2; have := k03.size; omega)
        (repeat (first|refine ja ?_|refine jb ?_|refine jc ?_|refine jd ?_|refine je ?_|refine jf ?_|refine jg ?_|refine jh ?_|refine ji ?_|refine jj ?_|refine jk ?_|refine jl ?_|refine jm ?_|refine jn ?_|refine jo ?_|refine jp ?_|refine jq ?_|refine jr ?_|refine js ?_|refine jt ?_|refine ju ?_|refine jv ?_|refine jw ?_|refine jx ?_|refine jy ?_|refine jz ?_|refine jA ?_|refine jB ?_|refine jC ?_|refine jD ?_|refine jE ?_|refine jF ?_|refine jG ?_|refine jH ?_|refine jI ?_|refine jJ ?_|refine jK ?_|refine jL ?_|refine jM (by assumption) ?_|refine jN (by assumption) rfl ?_|refine jO (by assumption) ?_|refine jP (by assumption) rfl ?_|refine jQ ?_|refine jR ?_|refine jS ?_|refine jT ?_|refine jU (by assumption) rfl ?_))
        refine M.call_i (each_ret h6 hcd hf3 hDr) ?_; rintro xs w7 ⟨g7, h7, k7⟩
        have q5 := k5.size; have q6 := k6.size; have q7 := k7.size
        have b2 := b2.keep k7 (fun h => by omega)
        have bn7 := bn6.keep k7 (fun h => by omega)
        obtain ⟨X, cx, rfl, hxr, _⟩ := GW.lv g7
        (repeat (first|refine ja ?_|refine jb ?_|refine jc ?_|refine jd ?_|refine je ?_|refine jf ?_|refine jg ?_|refine jh ?_|refine ji ?_|refine jj ?_|refine jk ?_|refine jl ?_|refine jm ?_|refine jn ?_|refine jo ?_|refine jp ?_|refine jq ?_|refine jr ?_|refine js ?_|refine jt ?_|refine ju ?_|refine jv ?_|refine jw ?_|refine jx ?_|refine jy ?_|refine jz ?_|refine jA ?_|refine jB ?_|refine jC ?_|refine jD ?_|refine jE ?_|refine jF ?_|refine jG ?_|refine jH ?_|refine jI ?_|refine jJ ?_|refine jK ?_|refine jL ?_|refine jM (by assumption) ?_|refine jN (by assumption) rfl ?_|refine jO (by assumption) ?_|refine jP (by assumption) rfl ?_|refine jQ ?_|refine jR ?_|refine jS ?_|refine jT ?_|refine jU (by assumption) rfl ?_))
        refine M.loop_i (σ := Nat) (fun n vals w' => ∃ i : Nat, n = conds.length - i ∧ i ≤ conds.length ∧ vals = [.bool (((conds.map (valW N env)).take i).all (fun x => decide (x = 1))), vi i] ∧ w' = w7) id conds.length ⟨0, rfl, by omega, by simp, rfl⟩ ?_
        rintro n vals w8 K ⟨i, rfl, hi, rfl, rfl⟩ hK _
        simp only [List.getD_cons_zero, List.getD_cons_succ]
        rw [List.length_map]
        by_cases hlt : i < conds.length
        · refine M.lss_t (by omega) ?_
          refine M.cond_t ?_
          have hlt' : i < (conds.map (valW N env)).length := by simpa using hlt
          refine M.idxLV_i hxr (List.length_map _) (by omega) (by omega) (x := (conds.map (valW N env))[i]) (by rw [Int.toNat_natCast]; exact List.getElem?_eq_getElem hlt') (fun bb oo hA hcc => ?_)
          refine M.load_i hcc ?_
          have et : (conds.map (valW N env)).take (i + 1) = (conds.map (valW N env)).take i ++ [(conds.map (valW N env))[i]] := List.take_succ_eq_append_getElem hlt'
          have fin : ∀ v, v = .bool (((conds.map (valW N env)).take (i + 1)).all (fun x => decide (x = 1))) → K [v, vi (i + 1)] w8 := fun v hv => hK (conds.length - (i + 1)) _ _ (by show conds.length - (i + 1) < conds.length - i; omega) ⟨i + 1, rfl, by omega, by rw [hv]; rfl, rfl⟩
          rw [et, List.all_append, List.all_cons, List.all_nil, Bool.and_true] at fin
          cases hb : ((conds.map (valW N env)).take i).all (fun x => decide (x = 1)) with
          | true =>
            rw [hb] at fin
            (repeat (first|refine ja ?_|refine jb ?_|refine jc ?_|refine jd ?_|refine je ?_|refine jf ?_|refine jg ?_|refine jh ?_|refine ji ?_|refine jj ?_|refine jk ?_|refine jl ?_|refine jm ?_|refine jn ?_|refine jo ?_|refine jp ?_|refine jq ?_|refine jr ?_|refine js ?_|refine jt ?_|refine ju ?_|refine jv ?_|refine jw ?_|refine jx ?_|refine jy ?_|refine jz ?_|refine jA ?_|refine jB ?_|refine jC ?_|refine jD ?_|refine jE ?_|refine jF ?_|refine jG ?_|refine jH ?_|refine jI ?_|refine jJ ?_|refine jK ?_|refine jL ?_|refine jM (by assumption) ?_|refine jN (by assumption) rfl ?_|refine jO (by assumption) ?_|refine jP (by assumption) rfl ?_|refine jQ ?_|refine jR ?_|refine jS ?_|refine jT ?_|refine jU (by assumption) rfl ?_))
            change M.bin .eql (vw (conds.map (valW N env))[i]) (vw 1) _ _
            refine M.eqlW_i ?_
            (repeat (first|refine ja ?_|refine jb ?_|refine jc ?_|refine jd ?_|refine je ?_|refine jf ?_|refine jg ?_|refine jh ?_|refine ji ?_|refine jj ?_|refine jk ?_|refine jl ?_|refine jm ?_|refine jn ?_|refine jo ?_|refine jp ?_|refine jq ?_|refine jr ?_|refine js ?_|refine jt ?_|refine ju ?_|refine jv ?_|refine jw ?_|refine jx ?_|refine jy ?_|refine jz ?_|refine jA ?_|refine jB ?_|refine jC ?_|refine jD ?_|refine jE ?_|refine jF ?_|refine jG ?_|refine jH ?_|refine jI ?_|refine jJ ?_|refine jK ?_|refine jL ?_|refine jM (by assumption) ?_|refine jN (by assumption) rfl ?_|refine jO (by assumption) ?_|refine jP (by assumption) rfl ?_|refine jQ ?_|refine jR ?_|refine jS ?_|refine jT ?_|refine jU (by assumption) rfl ?_))
            exact fin _ (by simp)
          | false =>
            rw [hb] at fin
            (repeat (first|refine ja ?_|refine jb ?_|refine jc ?_|refine jd ?_|refine je ?_|refine jf ?_|refine jg ?_|refine jh ?_|refine ji ?_|refine jj ?_|refine jk ?_|refine jl ?_|refine jm ?_|refine jn ?_|refine jo ?_|refine jp ?_|refine jq ?_|refine jr ?_|refine js ?_|refine jt ?_|refine ju ?_|refine jv ?_|refine jw ?_|refine jx ?_|refine jy ?_|refine jz ?_|refine jA ?_|refine jB ?_|refine jC ?_|refine jD ?_|refine jE ?_|refine jF ?_|refine jG ?_|refine jH ?_|refine jI ?_|refine jJ ?_|refine jK ?_|refine jL ?_|refine jM (by assumption) ?_|refine jN (by assumption) rfl ?_|refine jO (by assumption) ?_|refine jP (by assumption) rfl ?_|refine jQ ?_|refine jR ?_|refine jS ?_|refine jT ?_|refine jU (by assumption) rfl ?_))
            exact fin _ (by simp)
        · have : i = conds.length := by omega
          subst this
          have ho : ((conds.map (valW N env)).take conds.length).all (fun x => decide (x = 1)) = stHolds N env ⟨regs, cells, pc, steps, calls, en, code, value, dev, conds⟩ := by
            unfold stHolds
            rw [List.take_of_length_le (by simp)]
          rw [ho]
          have eB : (((((false || cells.any (fun i => !isN N i)) || devBad N dev) || regs.any (fun i => !isN N i)) || (decide (en = 1) && !isN N value)) || conds.any (fun i => !isN N i)) = stBad N ⟨regs, cells, pc, steps, calls, en, code, value, dev, conds⟩ := by simp only [stBad, Bool.false_or]
          rw [eB] at h7
          have hb7 := h7.blk
          have kk : Keep w w8 No := ((((k03.trans k4 (fun b hb h => by omega)).trans k5 (fun b hb h => by omega)).trans k6 (fun b hb h => by omega)).trans k7 (fun b hb h => by omega))
          refine M.lss_f (by omega) ?_
          refine M.cond_f ?_
          have hcs8 := (((hcs.keep k5 (fun b hb h e => by rcases e with e | e; have := h.1; omega; exact h.2 e)).keep k6 (fun b hb h e => by rcases e with e | e; have := h.1; omega; exact h.2 e)).keep k7 (fun b hb h e => by have := h.1; omega))
          have hdd8 := (((hdd.keep k5 (fun b hb h e => by rcases e with e | e; have := h.1; omega; exact h.2 e)).keep k6 (fun b hb h e => by rcases e with e | e; have := h.1; omega; exact h.2 e)).keep k7 (fun b hb h e => by have := h.1; omega))
          have q03 := k03.size
          cases hbad : stBad N ⟨regs, cells, pc, steps, calls, en, code, value, dev, conds⟩ with
          | true =>
            rw [hbad] at hb7
            (repeat (first|refine ja ?_|refine jb ?_|refine jc ?_|refine jd ?_|refine je ?_|refine jf ?_|refine jg ?_|refine jh ?_|refine ji ?_|refine jj ?_|refine jk ?_|refine jl ?_|refine jm ?_|refine jn ?_|refine jo ?_|refine jp ?_|refine jq ?_|refine jr ?_|refine js ?_|refine jt ?_|refine ju ?_|refine jv ?_|refine jw ?_|refine jx ?_|refine jy ?_|refine jz ?_|refine jA ?_|refine jB ?_|refine jC ?_|refine jD ?_|refine jE ?_|refine jF ?_|refine jG ?_|refine jH ?_|refine jI ?_|refine jJ ?_|refine jK ?_|refine jL ?_|refine jM (by assumption) ?_|refine jN (by assumption) rfl ?_|refine jO (by assumption) ?_|refine jP (by assumption) rfl ?_|refine jQ ?_|refine jR ?_|refine jS ?_|refine jT ?_|refine jU (by assumption) rfl ?_))
            refine M.pure_i (.agg ⟨zSt⟩) (fun _ => by kernel_rfl) ?_
            refine M.storeAll_i b2 rfl rfl (List.all_eq_true.1 rfl) (fun w9 b9 k9 s9 => ?_)
            refine M.loadAll_i b9 rfl ?_
            exact ⟨_, rfl, st0_o _ _, kk.trans k9 (fun b hb h => by omega)⟩
          | false =>
            rw [hbad] at hb7
            (repeat (first|refine ja ?_|refine jb ?_|refine jc ?_|refine jd ?_|refine je ?_|refine jf ?_|refine jg ?_|refine jh ?_|refine ji ?_|refine jj ?_|refine jk ?_|refine jl ?_|refine jm ?_|refine jn ?_|refine jo ?_|refine jp ?_|refine jq ?_|refine jr ?_|refine js ?_|refine jt ?_|refine ju ?_|refine jv ?_|refine jw ?_|refine jx ?_|refine jy ?_|refine jz ?_|refine jA ?_|refine jB ?_|refine jC ?_|refine jD ?_|refine jE ?_|refine jF ?_|refine jG ?_|refine jH ?_|refine jI ?_|refine jJ ?_|refine jK ?_|refine jL ?_|refine jM (by assumption) ?_|refine jN (by assumption) rfl ?_|refine jO (by assumption) ?_|refine jP (by assumption) rfl ?_|refine jQ ?_|refine jR ?_|refine jS ?_|refine jT ?_|refine jU (by assumption) rfl ?_))
            refine M.loadAll_i bn7 rfl ?_
            refine M.storeAll_i b2 rfl rfl (by
              have o1 := LV.one hcs8
              have o2 := LV.one hdd8.1
              have o3 := LN.one hdd8.2
              refine List.all_eq_true.1 ?_
              simp only [List.all_cons, List.all_nil, o1, o2, o3]
              rfl) (fun w9 b9 k9 s9 => ?_)
            refine M.loadAll_i b9 rfl ?_
            refine ⟨_, rfl, ⟨by simp [stOf, h8], cs, da, db, by subst hrs; rfl, ?_, ?_⟩, kk.trans k9 (fun b hb h => by omega)⟩
            · exact (hcs8.keep k9 (fun b hb h e => by have := h.1; omega)).mono (fun b hb h => by have := h.1; show w.heap.size ≤ b; omega)
            · exact (hdd8.keep k9 (fun b hb h e => by have := h.1; omega)).mono (fun b hb h => by have := h.1; show w.heap.size ≤ b; omega)
      · intro K3 hK3
        (repeat (first|refine ja ?_|refine jb ?_|refine jc ?_|refine jd ?_|refine je ?_|refine jf ?_|refine jg ?_|refine jh ?_|refine ji ?_|refine jj ?_|refine jk ?_|refine jl ?_|refine jm ?_|refine jn ?_|refine jo ?_|refine jp ?_|refine jq ?_|refine jr ?_|refine js ?_|refine jt ?_|refine ju ?_|refine jv ?_|refine jw ?_|refine jx ?_|refine jy ?_|refine jz ?_|refine jA ?_|refine jB ?_|refine jC ?_|refine jD ?_|refine jE ?_|refine jF ?_|refine jG ?_|refine jH ?_|refine jI ?_|refine jJ ?_|refine jK ?_|refine jL ?_|refine jM (by assumption) ?_|refine jN (by assumption) rfl ?_|refine jO (by assumption) ?_|refine jP (by assumption) rfl ?_|refine jQ ?_|refine jR ?_|refine jS ?_|refine jT ?_|refine jU (by assumption) rfl ?_))
        by_cases hen : en = 1
        · refine M.eql_t hen ?_
          rw [if_pos hen, decide_eq_true hen, Bool.true_and] at hK3
          (repeat (first|refine ja ?_|refine jb ?_|refine jc ?_|refine jd ?_|refine je ?_|refine jf ?_|refine jg ?_|refine jh ?_|refine ji ?_|refine jj ?_|refine jk ?_|refine jl ?_|refine jm ?_|refine jn ?_|refine jo ?_|refine jp ?_|refine jq ?_|refine jr ?_|refine js ?_|refine jt ?_|refine ju ?_|refine jv ?_|refine jw ?_|refine jx ?_|refine jy ?_|refine jz ?_|refine jA ?_|refine jB ?_|refine jC ?_|refine jD ?_|refine jE ?_|refine jF ?_|refine jG ?_|refine jH ?_|refine jI ?_|refine jJ ?_|refine jK ?_|refine jL ?_|refine jM (by assumption) ?_|refine jN (by assumption) rfl ?_|refine jO (by assumption) ?_|refine jP (by assumption) rfl ?_|refine jQ ?_|refine jR ?_|refine jS ?_|refine jT ?_|refine jU (by assumption) rfl ?_))
          refine M.call_i (word_ret h5 value) ?_; rintro _ w6 ⟨rfl, h6, k6⟩
          have bn6 := bn5.keep k6 (fun h => by omega)
          (repeat (first|refine ja ?_|refine jb ?_|refine jc ?_|refine jd ?_|refine je ?_|refine jf ?_|refine jg ?_|refine jh ?_|refine ji ?_|refine jj ?_|refine jk ?_|refine jl ?_|refine jm ?_|refine jn ?_|refine jo ?_|refine jp ?_|refine jq ?_|refine jr ?_|refine js ?_|refine jt ?_|refine ju ?_|refine jv ?_|refine jw ?_|refine jx ?_|refine jy ?_|refine jz ?_|refine jA ?_|refine jB ?_|refine jC ?_|refine jD ?_|refine jE ?_|refine jF ?_|refine jG ?_|refine jH ?_|refine jI ?_|refine jJ ?_|refine jK ?_|refine jL ?_|refine jM (by assumption) ?_|refine jN (by assumption) rfl ?_|refine jO (by assumption) ?_|refine jP (by assumption) rfl ?_|refine jQ ?_|refine jR ?_|refine jS ?_|refine jT ?_|refine jU (by assumption) rfl ?_))
          refine M.store_i bn6 (by simp) rfl (fun w7 b7 k7 s7 => ?_)
          refine hK3 _ _ ⟨b7, ?_, (k6.mono (fun _ _ h => .inl h)).trans k7 (fun _ _ h => .inr h)⟩
          exact h6.keep' k7 (fun h => by omega) (fun h => by have := hd.lt h; have := k03.size; omega) (fun h => by have := h.2; have := k03.size; omega)
        · refine M.eql_f hen ?_
          rw [if_neg hen, decide_eq_false hen, Bool.false_and, Bool.or_false] at hK3
          (repeat (first|refine ja ?_|refine jb ?_|refine jc ?_|refine jd ?_|refine je ?_|refine jf ?_|refine jg ?_|refine jh ?_|refine ji ?_|refine jj ?_|refine jk ?_|refine jl ?_|refine jm ?_|refine jn ?_|refine jo ?_|refine jp ?_|refine jq ?_|refine jr ?_|refine js ?_|refine jt ?_|refine ju ?_|refine jv ?_|refine jw ?_|refine jx ?_|refine jy ?_|refine jz ?_|refine jA ?_|refine jB ?_|refine jC ?_|refine jD ?_|refine jE ?_|refine jF ?_|refine jG ?_|refine jH ?_|refine jI ?_|refine jJ ?_|refine jK ?_|refine jL ?_|refine jM (by assumption) ?_|refine jN (by assumption) rfl ?_|refine jO (by assumption) ?_|refine jP (by assumption) rfl ?_|refine jQ ?_|refine jR ?_|refine jS ?_|refine jT ?_|refine jU (by assumption) rfl ?_))
          exact hK3 _ _ ⟨bn5, h5, Keep.refl _ _⟩
  · intro K hK
    refine M.draw_i ?_
    have hR := hR.keep (Keep.drew w3 No)
    have hc := hc.keep (Keep.drew w3 No) (fun _ _ _ h => h)
    have hdv := hdv.keep (Keep.drew w3 No) (fun _ _ _ h => h)
    have b1 := b1.keep (Keep.drew w3 No) (fun h => h)
    have e3 : w3.drew.heap.size = w3.heap.size := rfl
    have kd : Keep w3 w3.drew No := Keep.drew w3 No
    revert e3 kd b1 hc hdv hR
    generalize w3.drew = w4
    intro hR hc hdv b1 e3 kd
    (repeat (first|refine ja ?_|refine jb ?_|refine jc ?_|refine jd ?_|refine je ?_|refine jf ?_|refine jg ?_|refine jh ?_|refine ji ?_|refine jj ?_|refine jk ?_|refine jl ?_|refine jm ?_|refine jn ?_|refine jo ?_|refine jp ?_|refine jq ?_|refine jr ?_|refine js ?_|refine jt ?_|refine ju ?_|refine jv ?_|refine jw ?_|refine jx ?_|refine jy ?_|refine jz ?_|refine jA ?_|refine jB ?_|refine jC ?_|refine jD ?_|refine jE ?_|refine jF ?_|refine jG ?_|refine jH ?_|refine jI ?_|refine jJ ?_|refine jK ?_|refine jL ?_|refine jM (by assumption) ?_|refine jN (by assumption) rfl ?_|refine jO (by assumption) ?_|refine jP (by assumption) rfl ?_|refine jQ ?_|refine jR ?_|refine jS ?_|refine jT ?_|refine jU (by assumption) rfl ?_))
    refine M.loadA_i b1 (by simp) ?_
    refine ⟨?_, ?_⟩
    · refine M.call_i (each_ret hR hc hf1 hDr) ?_; rintro cs w5 ⟨g5, h5, k5⟩
      have b1 := b1.keep k5 (fun h => by omega)
      have hdv5 := hdv.keep k5 (fun b _ hb e => hDr (e ▸ hb))
      have hrl := hR.blk.lt
      refine M.stA_i b1 (by simp) ?_
      (repeat (first|refine ja ?_|refine jb ?_|refine jc ?_|refine jd ?_|refine je ?_|refine jf ?_|refine jg ?_|refine jh ?_|refine ji ?_|refine jj ?_|refine jk ?_|refine jl ?_|refine jm ?_|refine jn ?_|refine jo ?_|refine jp ?_|refine jq ?_|refine jr ?_|refine js ?_|refine jt ?_|refine ju ?_|refine jv ?_|refine jw ?_|refine jx ?_|refine jy ?_|refine jz ?_|refine jA ?_|refine jB ?_|refine jC ?_|refine jD ?_|refine jE ?_|refine jF ?_|refine jG ?_|refine jH ?_|refine jI ?_|refine jJ ?_|refine jK ?_|refine jL ?_|refine jM (by assumption) ?_|refine jN (by assumption) rfl ?_|refine jO (by assumption) ?_|refine jP (by assumption) rfl ?_|refine jQ ?_|refine jR ?_|refine jS ?_|refine jT ?_|refine jU (by assumption) rfl ?_))
      have q5 := k5.size
      refine ⟨?_, ?_⟩
      · refine M.call_i (dev_ret h5 hdv5 hf2 hDr) ?_; rintro _ w6 ⟨da, db, rfl, g6, h6, k6⟩
        have b1 := b1.keep k6 (fun h => by omega)
        have g5 := GW.lv (g5.keep k6 (fun b _ hb e => by have hb : w4.heap.size ≤ b := hb; omega))
        have q6 := k6.size
        (repeat (first|refine ja ?_|refine jb ?_|refine jc ?_|refine jd ?_|refine je ?_|refine jf ?_|refine jg ?_|refine jh ?_|refine ji ?_|refine jj ?_|refine jk ?_|refine jl ?_|refine jm ?_|refine jn ?_|refine jo ?_|refine jp ?_|refine jq ?_|refine jr ?_|refine js ?_|refine jt ?_|refine ju ?_|refine jv ?_|refine jw ?_|refine jx ?_|refine jy ?_|refine jz ?_|refine jA ?_|refine jB ?_|refine jC ?_|refine jD ?_|refine jE ?_|refine jF ?_|refine jG ?_|refine jH ?_|refine jI ?_|refine jJ ?_|refine jK ?_|refine jL ?_|refine jM (by assumption) ?_|refine jN (by assumption) rfl ?_|refine jO (by assumption) ?_|refine jP (by assumption) rfl ?_|refine jQ ?_|refine jR ?_|refine jS ?_|refine jT ?_|refine jU (by assumption) rfl ?_))
        obtain ⟨A5, c5, rfl, _, _⟩ := id g5
        obtain ⟨⟨A6, c6, rfl, _, _⟩, A7, c7, rfl, _, _⟩ := id g6
        refine M.pure_i (.agg ⟨[vw 0, vw 0, vw 0, vw 0, vw 0, vw 0, vw 0, vw 0, .slice A5 (cells.map (valW N env)).length c5, vi pc, vi steps, vi calls, vi en, vi code, vw 0, .slice A6 (devOf N env dev).disk.length c6, .slice A7 (devOf N env dev).pend.length c7, vi dev.ep]⟩) (fun _ => by kernel_rfl) ?_
        refine M.new_i (l := zSt) (fun w7 b7 k7 s7 => ?_)
        have b1 := b1.keep k7 (fun h => h)
        (repeat (first|refine ja ?_|refine jb ?_|refine jc ?_|refine jd ?_|refine je ?_|refine jf ?_|refine jg ?_|refine jh ?_|refine ji ?_|refine jj ?_|refine jk ?_|refine jl ?_|refine jm ?_|refine jn ?_|refine jo ?_|refine jp ?_|refine jq ?_|refine jr ?_|refine js ?_|refine jt ?_|refine ju ?_|refine jv ?_|refine jw ?_|refine jx ?_|refine jy ?_|refine jz ?_|refine jA ?_|refine jB ?_|refine jC ?_|refine jD ?_|refine jE ?_|refine jF ?_|refine jG ?_|refine jH ?_|refine jI ?_|refine jJ ?_|refine jK ?_|refine jL ?_|refine jM (by assumption) ?_|refine jN (by assumption) rfl ?_|refine jO (by assumption) ?_|refine jP (by assumption) rfl ?_|refine jQ ?_|refine jR ?_|refine jS ?_|refine jT ?_|refine jU (by assumption) rfl ?_))
        refine M.storeAll_i b7 rfl rfl (List.all_eq_true.1 rfl) (fun w8 b8 k8 s8 => ?_)
        have k58 : Keep w6 w8 No := k7.trans k8 (fun b hb h => by omega)
        have kall : Keep w4 w8 (· = w2.heap.size) := (k5.trans k6 (fun _ _ h => h)).trans k58 (fun _ _ h => h.elim)
        refine hK _ _ ⟨_, _, _, _, rfl, by omega, b8, ?_, ?_, ?_, ?_⟩
        · exact (g5.mono (fun b hb h => by have h : w4.heap.size ≤ b := h; exact ⟨by omega, by omega⟩)).keep k58 (fun _ _ _ h => h)
        · exact (g6.mono (fun b hb h => by have h : w5.heap.size ≤ b := h; exact ⟨by omega, by omega⟩)).keep k58 (fun _ _ _ h => h)
        · exact hR.set kall (h6.blk.keep k58 (fun h => h))
        · exact (kd.mono (fun _ _ h => h.elim)).trans kall (fun _ _ h => h)
      · refine M.new_i (l := zSt) (fun w6 b7 k6 s6 => ?_)
        have b1 := b1.keep k6 (fun h => h)
        refine M.stA_i b1 (by simp) ?_
        (repeat (first|refine ja ?_|refine jb ?_|refine jc ?_|refine jd ?_|refine je ?_|refine jf ?_|refine jg ?_|refine jh ?_|refine ji ?_|refine jj ?_|refine jk ?_|refine jl ?_|refine jm ?_|refine jn ?_|refine jo ?_|refine jp ?_|refine jq ?_|refine jr ?_|refine js ?_|refine jt ?_|refine ju ?_|refine jv ?_|refine jw ?_|refine jx ?_|refine jy ?_|refine jz ?_|refine jA ?_|refine jB ?_|refine jC ?_|refine jD ?_|refine jE ?_|refine jF ?_|refine jG ?_|refine jH ?_|refine jI ?_|refine jJ ?_|refine jK ?_|refine jL ?_|refine jM (by assumption) ?_|refine jN (by assumption) rfl ?_|refine jO (by assumption) ?_|refine jP (by assumption) rfl ?_|refine jQ ?_|refine jR ?_|refine jS ?_|refine jT ?_|refine jU (by assumption) rfl ?_))
        refine M.call_i (dev_ret (h5.keep k6) (hdv5.keep k6 (fun _ _ _ h => h)) hf2 hDr) ?_; rintro _ w7 ⟨da, db, rfl, g6, h6, k7⟩
        have b1 := b1.keep k7 (fun h => by omega)
        have b7 := b7.keep k7 (fun h => by omega)
        have g5 := (((GW.lv g5).mono (D' := fun b => w3.heap.size ≤ b ∧ b ≠ w5.heap.size) (fun b hb h => by have h : w4.heap.size ≤ b := h; exact ⟨by omega, by omega⟩)).keep k6 (fun _ _ _ h => h)).keep k7 (fun b _ hb e => by have := hb.1; omega)
        have q7 := k7.size
        (repeat (first|refine ja ?_|refine jb ?_|refine jc ?_|refine jd ?_|refine je ?_|refine jf ?_|refine jg ?_|refine jh ?_|refine ji ?_|refine jj ?_|refine jk ?_|refine jl ?_|refine jm ?_|refine jn ?_|refine jo ?_|refine jp ?_|refine jq ?_|refine jr ?_|refine js ?_|refine jt ?_|refine ju ?_|refine jv ?_|refine jw ?_|refine jx ?_|refine jy ?_|refine jz ?_|refine jA ?_|refine jB ?_|refine jC ?_|refine jD ?_|refine jE ?_|refine jF ?_|refine jG ?_|refine jH ?_|refine jI ?_|refine jJ ?_|refine jK ?_|refine jL ?_|refine jM (by assumption) ?_|refine jN (by assumption) rfl ?_|refine jO (by assumption) ?_|refine jP (by assumption) rfl ?_|refine jQ ?_|refine jR ?_|refine jS ?_|refine jT ?_|refine jU (by assumption) rfl ?_))
        obtain ⟨A5, c5, rfl, _, _⟩ := id g5
        obtain ⟨⟨A6, c6, rfl, _, _⟩, A7, c7, rfl, _, _⟩ := id g6
        refine M.pure_i (.agg ⟨[vw 0, vw 0, vw 0, vw 0, vw 0, vw 0, vw 0, vw 0, .slice A5 (cells.map (valW N env)).length c5, vi pc, vi steps, vi calls, vi en, vi code, vw 0, .slice A6 (devOf N env dev).disk.length c6, .slice A7 (devOf N env dev).pend.length c7, vi dev.ep]⟩) (fun _ => by kernel_rfl) ?_
        refine M.storeAll_i b7 rfl rfl (List.all_eq_true.1 rfl) (fun w8 b8 k8 s8 => ?_)
        have kall : Keep w4 w8 (· = w2.heap.size) := (((k5.trans k6 (fun _ _ h => h.elim)).trans k7 (fun _ _ h => h))).trans k8 (fun b hb h => by omega)
        refine hK _ _ ⟨_, _, _, _, rfl, by omega, b8, ?_, ?_, ?_, ?_⟩
        · exact g5.keep k8 (fun _ _ h e => h.2 e)
        · exact (g6.mono (D' := fun b => w3.heap.size ≤ b ∧ b ≠ w5.heap.size) (fun b hb h => by have h : w6.heap.size ≤ b := h; exact ⟨by omega, by omega⟩)).keep k8 (fun _ _ h e => h.2 e)
        · exact hR.set kall (h6.blk.keep k8 (fun h => by omega))
        · exact (kd.mono (fun _ _ h => h.elim)).trans kall (fun _ _ h => h)
    · refine M.new_i (l := zSt) (fun w5 b7 k5 s5 => ?_)
      have b1 := b1.keep k5 (fun h => h)
      have hrl := hR.blk.lt
      refine M.stA_i b1 (by simp) ?_
      (repeat (first|refine ja ?_|refine jb ?_|refine jc ?_|refine jd ?_|refine je ?_|refine jf ?_|refine jg ?_|refine jh ?_|refine ji ?_|refine jj ?_|refine jk ?_|refine jl ?_|refine jm ?_|refine jn ?_|refine jo ?_|refine jp ?_|refine jq ?_|refine jr ?_|refine js ?_|refine jt ?_|refine ju ?_|refine jv ?_|refine jw ?_|refine jx ?_|refine jy ?_|refine jz ?_|refine jA ?_|refine jB ?_|refine jC ?_|refine jD ?_|refine jE ?_|refine jF ?_|refine jG ?_|refine jH ?_|refine jI ?_|refine jJ ?_|refine jK ?_|refine jL ?_|refine jM (by assumption) ?_|refine jN (by assumption) rfl ?_|refine jO (by assumption) ?_|refine jP (by assumption) rfl ?_|refine jQ ?_|refine jR ?_|refine jS ?_|refine jT ?_|refine jU (by assumption) rfl ?_))
      refine M.call_i (each_ret (hR.keep k5) (hc.keep k5 (fun _ _ _ h => h)) hf1 hDr) ?_; rintro cs w6 ⟨g5, h5, k6⟩
      have b1 := b1.keep k6 (fun h => by omega)
      have b7 := b7.keep k6 (fun h => by omega)
      have hdv6 := (hdv.keep k5 (fun _ _ _ h => h)).keep k6 (fun b _ hb e => hDr (e ▸ hb))
      have q6 := k6.size
      refine M.stA_i b1 (by simp) ?_
      (repeat (first|refine ja ?_|refine jb ?_|refine jc ?_|refine jd ?_|refine je ?_|refine jf ?_|refine jg ?_|refine jh ?_|refine ji ?_|refine jj ?_|refine jk ?_|refine jl ?_|refine jm ?_|refine jn ?_|refine jo ?_|refine jp ?_|refine jq ?_|refine jr ?_|refine js ?_|refine jt ?_|refine ju ?_|refine jv ?_|refine jw ?_|refine jx ?_|refine jy ?_|refine jz ?_|refine jA ?_|refine jB ?_|refine jC ?_|refine jD ?_|refine jE ?_|refine jF ?_|refine jG ?_|refine jH ?_|refine jI ?_|refine jJ ?_|refine jK ?_|refine jL ?_|refine jM (by assumption) ?_|refine jN (by assumption) rfl ?_|refine jO (by assumption) ?_|refine jP (by assumption) rfl ?_|refine jQ ?_|refine jR ?_|refine jS ?_|refine jT ?_|refine jU (by assumption) rfl ?_))
      refine M.call_i (dev_ret h5 hdv6 hf2 hDr) ?_; rintro _ w7 ⟨da, db, rfl, g6, h6, k7⟩
      have b1 := b1.keep k7 (fun h => by omega)
      have b7 := b7.keep k7 (fun h => by omega)
      have g5 := ((GW.lv g5).mono (D' := fun b => w3.heap.size ≤ b ∧ b ≠ w4.heap.size) (fun b hb h => by have h : w5.heap.size ≤ b := h; exact ⟨by omega, by omega⟩)).keep k7 (fun b _ hb e => by have := hb.1; omega)
      have q7 := k7.size
      (repeat (first|refine ja ?_|refine jb ?_|refine jc ?_|refine jd ?_|refine je ?_|refine jf ?_|refine jg ?_|refine jh ?_|refine ji ?_|refine jj ?_|refine jk ?_|refine jl ?_|refine jm ?_|refine jn ?_|refine jo ?_|refine jp ?_|refine jq ?_|refine jr ?_|refine js ?_|refine jt ?_|refine ju ?_|refine jv ?_|refine jw ?_|refine jx ?_|refine jy ?_|refine jz ?_|refine jA ?_|refine jB ?_|refine jC ?_|refine jD ?_|refine jE ?_|refine jF ?_|refine jG ?_|refine jH ?_|refine jI ?_|refine jJ ?_|refine jK ?_|refine jL ?_|refine jM (by assumption) ?_|refine jN (by assumption) rfl ?_|refine jO (by assumption) ?_|refine jP (by assumption) rfl ?_|refine jQ ?_|refine jR ?_|refine jS ?_|refine jT ?_|refine jU (by assumption) rfl ?_))
      obtain ⟨A5, c5, rfl, _, _⟩ := id g5
      obtain ⟨⟨A6, c6, rfl, _, _⟩, A7, c7, rfl, _, _⟩ := id g6
      refine M.pure_i (.agg ⟨[vw 0, vw 0, vw 0, vw 0, vw 0, vw 0, vw 0, vw 0, .slice A5 (cells.map (valW N env)).length c5, vi pc, vi steps, vi calls, vi en, vi code, vw 0, .slice A6 (devOf N env dev).disk.length c6, .slice A7 (devOf N env dev).pend.length c7, vi dev.ep]⟩) (fun _ => by kernel_rfl) ?_
      refine M.storeAll_i b7 rfl rfl (List.all_eq_true.1 rfl) (fun w8 b8 k8 s8 => ?_)
      have kall : Keep w4 w8 (· = w2.heap.size) := (((k5.mono (fun _ _ h => h.elim)).trans k6 (fun _ _ h => h)).trans k7 (fun _ _ h => h)).trans k8 (fun b hb h => by omega)
      refine hK _ _ ⟨_, _, _, _, rfl, by omega, b8, ?_, ?_, ?_, ?_⟩
      · exact g5.keep k8 (fun _ _ h e => h.2 e)
      · exact (g6.mono (D' := fun b => w3.heap.size ≤ b ∧ b ≠ w4.heap.size) (fun b hb h => by have h : w6.heap.size ≤ b := h; exact ⟨by omega, by omega⟩)).keep k8 (fun _ _ h e => h.2 e)
      · exact hR.set kall (h6.blk.keep k8 (fun h => by omega))
      · exact (kd.mono (fun _ _ h => h.elim)).trans kall (fun _ _ h => h)
end
end Go.Proofs.Ytgbodhibflpgmaa
