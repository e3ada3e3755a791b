import Derived.Test.YtnkechekdncnlaaW11n
import Derived.Test.YtnkechekdncnlaaRef03
namespace Go.Proofs.Ytnkechekdncnlaa
open Go.Mw
set_option linter.unusedVariables false
set_option linter.unusedSimpArgs false
set_option maxRecDepth 100000
attribute [local irreducible] M.val M.unit M.next M.pick M.new M.nilCheck M.load1 M.loadA M.store M.fieldAddr M.indexSl M.indexArr M.slice M.makeSlice M.buildSlice M.len M.lenS M.cap M.append M.extract M.conv M.not M.neg M.bin M.shift M.eqB M.eqNil M.call M.callv M.gd M.share M.cond M.loop M.draw pureW readW Ret
/-! breakwater/breakwaterref11.Set: function 22 -/
def sh22 (x0 x1 : Value) (R : Kt) (w : World) : Prop :=
  M.call Try.prog 44 #[x0] (fun t6 w =>
  M.call Try.prog 44 #[x1] (fun t8 w =>
  M.call Try.prog 40 #[t6, t8] (fun t9 w =>
  R t9 w) w) w) w
theorem ok22 (x0 x1 : Value) (R : Kt) (w : World) (h : sh22 x0 x1 R w) : Ret Try.prog 22 #[x0, x1] w R :=
  ret_mk <| calls_of_comp mixed (c := Try.f22.body.getD .skip) (args := [x0, x1]) (rs := [(ResultVar.tmp 4)]) (Ann.seq Ann.text (Ann.seq Ann.text Ann.leaf))
    Try.func22 (by kernel_rfl) (by kernel_rfl)
    (Eq.mp (by kernel_rfl) h)
/-! breakwater/breakwaterref10.New: function 13 -/
def sh13 (x0 : Value) (R : Kt) (w : World) : Prop :=
  M.new 39 #[.int .i64 0, .slice none 0 0, .int .i64 0] (fun t2 w =>
  M.share (fun K1 w =>
  M.bin .lss x0 (Value.int IntKind.i64 0) (fun t4 w =>
  M.gd t4 false (fun k w => k x0 w) (fun t6 w =>
  M.gd t4 false (fun k w => M.bin .gtr t6 (Value.int IntKind.i64 1048576) k w) (fun t7 w =>
  M.pick t4 (Value.bool true) t7 (fun t8 w =>
  M.cond t8
  (K1 [(Value.int IntKind.i64 0)] w)
  (K1 [x0] w)) w) w) w) w) (fun s1 w => ∀ _ : List Value,
  pureW Try.prog (Instr.build 39 #[(0, (s1.getD 0 undef))]) (fun t10 w =>
  M.store 3 t2 t10 (fun _ w =>
  M.loadA 3 t2 (fun r0 w => R r0 w) w) w) w) w) w
theorem ok13 (x0 : Value) (R : Kt) (w : World) (h : sh13 x0 R w) : Ret Try.prog 13 #[x0] w R :=
  ret_mk <| calls_of_comp mixed (c := Try.f13.body.getD .skip) (args := [x0]) (rs := [(ResultVar.cell 2 39)]) (Ann.seq Ann.text (Ann.join [0] [3, 4, 5, 6, 7, 8] (Ann.seq Ann.text (Ann.cond Ann.text Ann.leaf)) (Ann.seq Ann.text Ann.leaf)))
    Try.func13 (by kernel_rfl) (by kernel_rfl)
    (Eq.mp (by kernel_rfl) h)
/-! breakwater/breakwaterlaw11.WatchNone: function 3 -/
def sh3 (x0 : Value) (R : Kt) (w : World) : Prop :=
  M.new 24 (Value.cells x0) (fun t1 w =>
  M.draw (fun w =>
  M.fieldAddr 2 t1 (fun t16 w =>
  M.load1 t16 (fun t17 w =>
  M.call Try.prog 7 #[(Value.int IntKind.i64 3)] (fun t15 w =>
  ((M.load1 t16 (fun v' _ => v' = t17) w) ∧ M.call Try.prog 6 #[(Value.pointer none), t15, t17] (fun t18 w =>
  M.extract 0 t18 (fun t19 w =>
  M.extract 1 t18 (fun t20 w =>
  M.call Try.prog 7 #[(Value.int IntKind.i64 3)] (fun t23 w =>
  M.call Try.prog 8 #[(Value.pointer none), t23] (fun t24 w =>
  M.extract 0 t24 (fun t25 w =>
  M.extract 1 t24 (fun t26 w =>
  M.call Try.prog 9 #[(Value.int IntKind.i64 3)] (fun t27 w =>
  M.call Try.prog 8 #[t27, (Value.pointer none)] (fun t30 w =>
  M.extract 0 t30 (fun t31 w =>
  M.extract 1 t30 (fun t32 w =>
  M.call Try.prog 6 #[t27, (Value.pointer none), (Value.slice none 0 0)] (fun t35 w =>
  M.extract 0 t35 (fun t36 w =>
  M.extract 1 t35 (fun t37 w =>
  M.bin .eql t19 (Value.int IntKind.i64 0) (fun t39 w =>
  M.gd t39 true (fun k w => k t20 w) (fun t41 w =>
  M.gd t39 true (fun k w => M.bin .eql t41 (Value.int IntKind.i64 1) k w) (fun t42 w =>
  M.pick t39 t42 (Value.bool false) (fun t43 w =>
  M.gd t43 true (fun k w => k t25 w) (fun t45 w =>
  M.gd t43 true (fun k w => M.bin .eql t45 (Value.int IntKind.i64 (-1)) k w) (fun t46 w =>
  M.pick t43 t46 (Value.bool false) (fun t47 w =>
  M.gd t47 true (fun k w => k t26 w) (fun t49 w =>
  M.pick t47 t49 (Value.bool false) (fun t50 w =>
  M.gd t50 true (fun k w => k (Value.pointer none) w) (fun t52 w =>
  M.gd t50 true (fun k w => M.fieldAddr 1 t1 k w) (fun t53 w =>
  M.gd t50 true (fun k w => M.load1 t53 k w) (fun t54 w =>
  M.gd t50 true (fun k w => M.call Try.prog 10 #[t52, t54] k w) (fun t55 w =>
  M.gd t50 true (fun k w => M.not t55 k w) (fun t56 w =>
  M.pick t50 t56 (Value.bool false) (fun t57 w =>
  M.gd t57 true (fun k w => k (Value.pointer none) w) (fun t59 w =>
  M.gd t57 true (fun k w => M.fieldAddr 1 t1 k w) (fun t60 w =>
  M.gd t57 true (fun k w => M.load1 t60 k w) (fun t61 w =>
  M.gd t57 true (fun k w => M.call Try.prog 11 #[t59, t61] k w) (fun t62 w =>
  M.gd t57 true (fun k w => M.len t62 k w) (fun t63 w =>
  M.gd t57 true (fun k w => M.bin .eql t63 (Value.int IntKind.i64 0) k w) (fun t64 w =>
  M.pick t57 t64 (Value.bool false) (fun t65 w =>
  M.gd t65 true (fun k w => k (Value.pointer none) w) (fun t67 w =>
  M.gd t65 true (fun k w => M.call Try.prog 12 #[t67] k w) (fun t68 w =>
  M.gd t65 true (fun k w => M.bin .eql t68 (Value.int IntKind.i64 0) k w) (fun t69 w =>
  M.pick t65 t69 (Value.bool false) (fun t70 w =>
  M.gd t70 true (fun k w => k t27 w) (fun t72 w =>
  M.gd t70 true (fun k w => M.eqNil 0 true t72 k w) (fun t73 w =>
  M.pick t70 t73 (Value.bool false) (fun t74 w =>
  M.gd t74 true (fun k w => k t31 w) (fun t76 w =>
  M.gd t74 true (fun k w => M.bin .eql t76 (Value.int IntKind.i64 (-1)) k w) (fun t77 w =>
  M.pick t74 t77 (Value.bool false) (fun t78 w =>
  M.gd t78 true (fun k w => k t32 w) (fun t80 w =>
  M.pick t78 t80 (Value.bool false) (fun t81 w =>
  M.gd t81 true (fun k w => k t36 w) (fun t83 w =>
  M.gd t81 true (fun k w => M.bin .eql t83 (Value.int IntKind.i64 0) k w) (fun t84 w =>
  M.pick t81 t84 (Value.bool false) (fun t85 w =>
  M.gd t85 true (fun k w => k t37 w) (fun t87 w =>
  M.gd t85 true (fun k w => M.bin .eql t87 (Value.int IntKind.i64 1) k w) (fun t88 w =>
  M.pick t85 t88 (Value.bool false) (fun t89 w =>
  M.gd t89 true (fun k w => M.call Try.prog 13 #[(Value.int IntKind.i64 (-1))] k w) (fun t91 w =>
  M.gd t89 true (fun k w => pureW Try.prog (Instr.field 39 t91 0) k w) (fun t92 w =>
  M.gd t89 true (fun k w => M.bin .eql t92 (Value.int IntKind.i64 0) k w) (fun t93 w =>
  M.pick t89 t93 (Value.bool false) (fun t94 w =>
  M.gd t94 true (fun k w => M.call Try.prog 14 #[] k w) (fun t96 w =>
  M.pick t94 t96 (Value.bool false) (fun t97 w =>
  R t97 w) w) w) w) w) w) w) w) w) w) w) w) w) w) w) w) w) w) w) w) w) w) w) w) w) w) w) w) w) w) w) w) w) w) w) w) w) w) w) w) w) w) w) w) w) w) w) w) w) w) w) w) w) w) w) w) w) w) w) w) w)) w) w) w) w) w
theorem ok3 (x0 : Value) (R : Kt) (w : World) (h : sh3 x0 R w) : Ret Try.prog 3 #[x0] w R :=
  ret_mk <| calls_of_comp mixed (c := Try.f3.body.getD .skip) (args := [x0]) (rs := [(ResultVar.tmp 2)]) (Ann.seq Ann.text (Ann.seq Ann.text (Ann.seq (Ann.draw (Sch.take 0 (Sch.take 2 (Sch.take 3 (Sch.one 1 (Sch.one 4 (Sch.take 5 (Sch.take 6 (Sch.take 7 (Sch.take 8 (Sch.take 9 Sch.done))))))))))) (Ann.seq Ann.text (Ann.seq Ann.text (Ann.seq Ann.text (Ann.seq Ann.text (Ann.seq Ann.text Ann.leaf))))))))
    Try.func3 (by kernel_rfl) (by kernel_rfl)
    (Eq.mp (by kernel_rfl) h)
/-! breakwater/breakwaterlaw11.awake: function 14 -/
def sh14 (R : Kt) (w : World) : Prop :=
  M.call Try.prog 7 #[(Value.int IntKind.i64 3)] (fun t16 w =>
  M.call Try.prog 9 #[(Value.int IntKind.i64 3)] (fun t17 w =>
  M.eqNil 0 false t16 (fun t19 w =>
  M.gd t19 false (fun k w => k t17 w) (fun t21 w =>
  M.gd t19 false (fun k w => M.eqNil 0 false t21 k w) (fun t22 w =>
  M.pick t19 (Value.bool true) t22 (fun t23 w =>
  M.cond t23
  (R (Value.bool false) w)
  (M.buildSlice 3 1 #[.int .i64 0] 2 [(0, (Value.int IntKind.i64 1)), (1, (Value.int IntKind.i64 2))] (fun t27 w =>
  M.call Try.prog 6 #[t17, t16, t27] (fun t28 w =>
  M.extract 0 t28 (fun t29 w =>
  M.extract 1 t28 (fun t30 w =>
  M.buildSlice 3 1 #[.int .i64 0] 2 [(0, (Value.int IntKind.i64 3)), (1, (Value.int IntKind.i64 4))] (fun t34 w =>
  M.call Try.prog 6 #[t17, t16, t34] (fun t35 w =>
  M.extract 0 t35 (fun t36 w =>
  M.extract 1 t35 (fun t37 w =>
  M.buildSlice 3 1 #[.int .i64 0] 1 [(0, (Value.int IntKind.i64 6))] (fun t41 w =>
  M.call Try.prog 6 #[t17, t16, t41] (fun t42 w =>
  M.extract 0 t42 (fun t43 w =>
  M.extract 1 t42 (fun t44 w =>
  M.call Try.prog 32 #[t16, (Value.int IntKind.i64 0), (Value.int IntKind.i64 (-1))] (fun t46 w =>
  M.call Try.prog 8 #[t17, t16] (fun t50 w =>
  M.extract 0 t50 (fun t51 w =>
  M.extract 1 t50 (fun t52 w =>
  M.call Try.prog 27 #[t16] (fun t54 w =>
  M.buildSlice 3 1 #[.int .i64 0] 2 [(0, (Value.int IntKind.i64 5)), (1, (Value.int IntKind.i64 3))] (fun t58 w =>
  M.call Try.prog 6 #[t17, t16, t58] (fun t59 w =>
  M.extract 0 t59 (fun t60 w =>
  M.extract 1 t59 (fun t61 w =>
  M.call Try.prog 8 #[t17, t16] (fun t65 w =>
  M.extract 0 t65 (fun t66 w =>
  M.extract 1 t65 (fun t67 w =>
  M.bin .eql t29 (Value.int IntKind.i64 0) (fun t69 w =>
  M.gd t69 true (fun k w => k t30 w) (fun t71 w =>
  M.gd t69 true (fun k w => M.bin .eql t71 (Value.int IntKind.i64 0) k w) (fun t72 w =>
  M.pick t69 t72 (Value.bool false) (fun t73 w =>
  M.gd t73 true (fun k w => k t36 w) (fun t75 w =>
  M.gd t73 true (fun k w => M.bin .eql t75 (Value.int IntKind.i64 1) k w) (fun t76 w =>
  M.pick t73 t76 (Value.bool false) (fun t77 w =>
  M.gd t77 true (fun k w => k t37 w) (fun t79 w =>
  M.gd t77 true (fun k w => M.bin .eql t79 (Value.int IntKind.i64 0) k w) (fun t80 w =>
  M.pick t77 t80 (Value.bool false) (fun t81 w =>
  M.gd t81 true (fun k w => k t44 w) (fun t83 w =>
  M.gd t81 true (fun k w => M.bin .eql t83 (Value.int IntKind.i64 10) k w) (fun t84 w =>
  M.pick t81 t84 (Value.bool false) (fun t85 w =>
  M.gd t85 true (fun k w => k t51 w) (fun t87 w =>
  M.gd t85 true (fun k w => M.bin .eql t87 (Value.int IntKind.i64 (-1)) k w) (fun t88 w =>
  M.pick t85 t88 (Value.bool false) (fun t89 w =>
  M.gd t89 true (fun k w => k t52 w) (fun t91 w =>
  M.pick t89 t91 (Value.bool false) (fun t92 w =>
  M.gd t92 true (fun k w => k t54 w) (fun t94 w =>
  M.gd t92 true (fun k w => M.buildSlice 3 1 #[.int .i64 0] 3 [(0, (Value.int IntKind.i64 0)), (1, (Value.int IntKind.i64 2)), (2, (Value.int IntKind.i64 4))] k w) (fun t95 w =>
  M.gd t92 true (fun k w => M.call Try.prog 22 #[t94, t95] k w) (fun t96 w =>
  M.pick t92 t96 (Value.bool false) (fun t97 w =>
  M.gd t97 true (fun k w => k t16 w) (fun t99 w =>
  M.gd t97 true (fun k w => M.call Try.prog 33 #[t99, (Value.int IntKind.i64 2)] k w) (fun t100 w =>
  M.gd t97 true (fun k w => M.bin .eql t100 (Value.int IntKind.i64 1) k w) (fun t101 w =>
  M.pick t97 t101 (Value.bool false) (fun t102 w =>
  M.gd t102 true (fun k w => k t60 w) (fun t104 w =>
  M.gd t102 true (fun k w => M.bin .eql t104 (Value.int IntKind.i64 2) k w) (fun t105 w =>
  M.pick t102 t105 (Value.bool false) (fun t106 w =>
  M.gd t106 true (fun k w => k t66 w) (fun t108 w =>
  M.gd t106 true (fun k w => M.bin .eql t108 (Value.int IntKind.i64 2) k w) (fun t109 w =>
  M.pick t106 t109 (Value.bool false) (fun t110 w =>
  M.gd t110 true (fun k w => k t67 w) (fun t112 w =>
  M.gd t110 true (fun k w => M.not t112 k w) (fun t113 w =>
  M.pick t110 t113 (Value.bool false) (fun t114 w =>
  M.gd t114 true (fun k w => k t17 w) (fun t116 w =>
  M.gd t114 true (fun k w => M.call Try.prog 10 #[t116, (Value.int IntKind.i64 2)] k w) (fun t117 w =>
  M.pick t114 t117 (Value.bool false) (fun t118 w =>
  M.gd t118 true (fun k w => k t17 w) (fun t120 w =>
  M.gd t118 true (fun k w => M.call Try.prog 10 #[t120, (Value.int IntKind.i64 2)] k w) (fun t121 w =>
  M.gd t118 true (fun k w => M.not t121 k w) (fun t122 w =>
  M.pick t118 t122 (Value.bool false) (fun t123 w =>
  M.gd t123 true (fun k w => k t17 w) (fun t125 w =>
  M.gd t123 true (fun k w => M.call Try.prog 12 #[t125] k w) (fun t126 w =>
  M.gd t123 true (fun k w => M.bin .eql t126 (Value.int IntKind.i64 2) k w) (fun t127 w =>
  M.pick t123 t127 (Value.bool false) (fun t128 w =>
  M.gd t128 true (fun k w => k t17 w) (fun t130 w =>
  M.gd t128 true (fun k w => M.call Try.prog 11 #[t130, (Value.int IntKind.i64 2)] k w) (fun t131 w =>
  M.gd t128 true (fun k w => M.len t131 k w) (fun t132 w =>
  M.gd t128 true (fun k w => M.bin .eql t132 (Value.int IntKind.i64 0) k w) (fun t133 w =>
  M.pick t128 t133 (Value.bool false) (fun t134 w =>
  M.gd t134 true (fun k w => k t17 w) (fun t136 w =>
  M.gd t134 true (fun k w => M.call Try.prog 11 #[t136, (Value.int IntKind.i64 1)] k w) (fun t137 w =>
  M.gd t134 true (fun k w => M.buildSlice 3 1 #[.int .i64 0] 2 [(0, (Value.int IntKind.i64 3)), (1, (Value.int IntKind.i64 4))] k w) (fun t138 w =>
  M.gd t134 true (fun k w => M.call Try.prog 22 #[t137, t138] k w) (fun t139 w =>
  M.pick t134 t139 (Value.bool false) (fun t140 w =>
  R t140 w) w) w) w) w) w) w) w) w) w) w) w) w) w) w) w) w) w) w) w) w) w) w) w) w) w) w) w) w) w) w) w) w) w) w) w) w) w) w) w) w) w) w) w) w) w) w) w) w) w) w) w) w) w) w) w) w) w) w) w) w) w) w) w) w) w) w) w) w) w) w) w) w) w) w) w) w) w) w) w) w)) w) w) w) w) w) w
theorem ok14 (R : Kt) (w : World) (h : sh14 R w) : Ret Try.prog 14 #[] w R :=
  ret_mk <| calls_of_comp mixed (c := Try.f14.body.getD .skip) (args := []) (rs := [(ResultVar.tmp 0)]) (Ann.seq Ann.text (Ann.seq Ann.text (Ann.seq (Ann.seq Ann.text (Ann.cond (Ann.seq Ann.text Ann.leaf) Ann.leaf)) (Ann.seq Ann.text (Ann.seq Ann.text (Ann.seq Ann.text (Ann.seq Ann.text (Ann.seq Ann.text (Ann.seq Ann.text (Ann.seq Ann.text (Ann.seq Ann.text (Ann.seq Ann.text Ann.leaf))))))))))))
    Try.func14 (by kernel_rfl) (by kernel_rfl)
    (Eq.mp (by kernel_rfl) h)

theorem insU_len (x : Int) : ∀ l : List Int, (insU x l).length ≤ l.length + 1
  | [] => by simp [insU]
  | y :: l => by
    have := insU_len x l
    unfold insU
    repeat' split
    all_goals simp
    all_goals omega
theorem srt_len : ∀ xs : List Int, (srt xs).length ≤ xs.length
  | [] => by simp [srt]
  | x :: xs => by
    have h := srt_len xs
    have := insU_len x (srt xs)
    show (insU x (srt xs)).length ≤ _
    rw [List.length_cons]; omega
theorem set_ret {w : World} {D D' : Nat → Prop} {u v : Value} {xs ys : List Int} (h1 : LV vi w D u xs) (h2 : LV vi w D' v ys) (hf1 : Few xs.length) (hf2 : Few ys.length) :
    Ret Try.prog 22 #[u, v] w (fun r w' => r = .bool (decide (srt xs = srt ys)) ∧ Keep w w' No) := by
  refine ok22 _ _ _ _ ?_
  unfold sh22
  refine M.call_i (sorted_ret h1 hf1) ?_; rintro a w1 ⟨g1, k1⟩
  refine M.call_i (sorted_ret (h2.keep k1 (fun _ _ _ h => h)) hf2) ?_; rintro b w2 ⟨g2, k2⟩
  refine M.call_i (same_ret (GI.lv (g1.keep k2 (fun _ _ _ h => h))) (GI.lv g2) (Nat.le_trans (srt_len _) hf1)) ?_; rintro _ w3 ⟨rfl, k3⟩
  exact ⟨rfl, (k1.trans k2 (fun _ _ h => h)).trans k3 (fun _ _ h => h)⟩
theorem r10m1_ret (w : World) : Ret Try.prog 13 #[vi (-1)] w (fun v w' => v = .agg ⟨[vi 0, .slice none 0 0, vi 0]⟩ ∧ Keep w w' No) := by
  refine ok13 _ _ _ ?_
  unfold sh13
  refine M.new_i (l := [vi 0, .slice none 0 0, vi 0]) (fun w1 b1 k1 s1 => ?_)
  refine M.share_j (fun vals w' => vals = [vi 0] ∧ w' = w1) ?_ ?_
  · rintro vals w' ⟨rfl, rfl⟩ _
    simp only [List.getD_cons_zero, List.getD_cons_succ]
    refine M.pure_i (.agg ⟨[vi 0, .slice none 0 0, vi 0]⟩) (fun _ => by kernel_rfl) ?_
    refine M.storeAll_i b1 rfl rfl (List.all_eq_true.1 rfl) (fun w2 b2 k2 s2 => ?_)
    refine M.loadAll_i b2 rfl ?_
    exact ⟨rfl, k1.trans k2 (fun b hb h => by omega)⟩
  · intro K hK
    (repeat (first|refine ja ?_|refine jb ?_|refine jc ?_|refine jd ?_|refine je ?_|refine jf ?_|refine jg ?_|refine jh ?_|refine ji ?_|refine jj ?_|refine jk ?_|refine jl ?_|refine jm ?_|refine jn ?_|refine jo ?_|refine jp ?_|refine jq ?_|refine jr ?_|refine js ?_|refine jt ?_|refine ju ?_|refine jv ?_|refine jw ?_|refine jx ?_|refine jy ?_|refine jz ?_|refine jA ?_|refine jB ?_|refine jC ?_|refine jD ?_|refine jE ?_|refine jF ?_|refine jG ?_|refine jH ?_|refine jI ?_|refine jJ ?_|refine jK ?_|refine jL ?_|refine jM (by assumption) ?_|refine jN (by assumption) rfl ?_|refine jO (by assumption) ?_|refine jP (by assumption) rfl ?_|refine jQ ?_|refine jR ?_|refine jS ?_|refine jT ?_|refine jU (by assumption) rfl ?_|refine jG ?_ (by decide)|refine jH ?_ (by decide)|refine jI ?_ (by decide)|refine jJ ?_ (by decide)|refine jC ?_ (by decide)|refine jy ?_ (by decide)))
    exact hK _ _ ⟨rfl, rfl⟩
set_option maxHeartbeats 1000000 in
theorem watchNone_of {w : World} {D : Nat → Prop} {a b : Int} {v : Value} (hv : v.oneCell' = true) (ha : ∀ w, Ret Try.prog 14 #[] w (fun v w' => v = .bool true ∧ Keep w w' No)) :
    Ret Try.prog 3 #[.agg ⟨[vi a, vi b, v]⟩] w (fun r w' => r = .bool true ∧ Keep w w' No) := by
  refine ok3 _ _ _ ?_
  unfold sh3
  refine M.new_i (l := [vi a, vi b, v]) (fun w1 b1 k1 s1 => ?_)
  refine M.draw_i ?_
  have kd := Keep.drew w1 No
  have k1 := k1.trans kd (fun _ _ h => h)
  have b1 := b1.keep kd (fun h => h)
  generalize w1.drew = w2 at *
  (repeat (first|refine ja ?_|refine jb ?_|refine jc ?_|refine jd ?_|refine je ?_|refine jf ?_|refine jg ?_|refine jh ?_|refine ji ?_|refine jj ?_|refine jk ?_|refine jl ?_|refine jm ?_|refine jn ?_|refine jo ?_|refine jp ?_|refine jq ?_|refine jr ?_|refine js ?_|refine jt ?_|refine ju ?_|refine jv ?_|refine jw ?_|refine jx ?_|refine jy ?_|refine jz ?_|refine jA ?_|refine jB ?_|refine jC ?_|refine jD ?_|refine jE ?_|refine jF ?_|refine jG ?_|refine jH ?_|refine jI ?_|refine jJ ?_|refine jK ?_|refine jL ?_|refine jM (by assumption) ?_|refine jN (by assumption) rfl ?_|refine jO (by assumption) ?_|refine jP (by assumption) rfl ?_|refine jQ ?_|refine jR ?_|refine jS ?_|refine jT ?_|refine jU (by assumption) rfl ?_))
  refine M.call_i (new_ret 3 w2) ?_; rintro _ w3 ⟨p, lab, rfl, _, k3, _⟩
  have b1 := b1.keep k3 (fun h => h)
  (repeat (first|refine ja ?_|refine jb ?_|refine jc ?_|refine jd ?_|refine je ?_|refine jf ?_|refine jg ?_|refine jh ?_|refine ji ?_|refine jj ?_|refine jk ?_|refine jl ?_|refine jm ?_|refine jn ?_|refine jo ?_|refine jp ?_|refine jq ?_|refine jr ?_|refine js ?_|refine jt ?_|refine ju ?_|refine jv ?_|refine jw ?_|refine jx ?_|refine jy ?_|refine jz ?_|refine jA ?_|refine jB ?_|refine jC ?_|refine jD ?_|refine jE ?_|refine jF ?_|refine jG ?_|refine jH ?_|refine jI ?_|refine jJ ?_|refine jK ?_|refine jL ?_|refine jM (by assumption) ?_|refine jN (by assumption) rfl ?_|refine jO (by assumption) ?_|refine jP (by assumption) rfl ?_|refine jQ ?_|refine jR ?_|refine jS ?_|refine jT ?_|refine jU (by assumption) rfl ?_))
  refine M.call_i (add_nilw (ptr p) v w3) ?_; rintro _ w4 ⟨rfl, k4⟩
  have b1 := b1.keep k4 (fun h => h)
  refine M.extract_i (v := vi 0) rfl ?_
  refine M.extract_i (v := vi 1) rfl ?_
  refine M.call_i (new_ret 3 w4) ?_; rintro _ w5 ⟨p2, lab2, rfl, _, k5, _⟩
  have b1 := b1.keep k5 (fun h => h)
  refine M.call_i (run_nilw (ptr p2) w5) ?_; rintro _ w6 ⟨rfl, k6⟩
  have b1 := b1.keep k6 (fun h => h)
  refine M.extract_i (v := vi (-1)) rfl ?_
  refine M.extract_i (v := .bool true) rfl ?_
  refine M.call_i (wnew_ret 3 w6) ?_; rintro _ w7 ⟨q, ow, r, vb, bvs, rfl, _, k7, _⟩
  have b1 := b1.keep k7 (fun h => h)
  refine M.call_i (run_nilt q w7) ?_; rintro _ w8 ⟨rfl, k8⟩
  have b1 := b1.keep k8 (fun h => h)
  refine M.extract_i (v := vi (-1)) rfl ?_
  refine M.extract_i (v := .bool true) rfl ?_
  refine M.call_i (add_nilt q (.slice none 0 0) w8) ?_; rintro _ w9 ⟨rfl, k9⟩
  have b1 := b1.keep k9 (fun h => h)
  refine M.extract_i (v := vi 0) rfl ?_
  refine M.extract_i (v := vi 1) rfl ?_
  (repeat (first|refine ja ?_|refine jb ?_|refine jc ?_|refine jd ?_|refine je ?_|refine jf ?_|refine jg ?_|refine jh ?_|refine ji ?_|refine jj ?_|refine jk ?_|refine jl ?_|refine jm ?_|refine jn ?_|refine jo ?_|refine jp ?_|refine jq ?_|refine jr ?_|refine js ?_|refine jt ?_|refine ju ?_|refine jv ?_|refine jw ?_|refine jx ?_|refine jy ?_|refine jz ?_|refine jA ?_|refine jB ?_|refine jC ?_|refine jD ?_|refine jE ?_|refine jF ?_|refine jG ?_|refine jH ?_|refine jI ?_|refine jJ ?_|refine jK ?_|refine jL ?_|refine jM (by assumption) ?_|refine jN (by assumption) rfl ?_|refine jO (by assumption) ?_|refine jP (by assumption) rfl ?_|refine jQ ?_|refine jR ?_|refine jS ?_|refine jT ?_|refine jU (by assumption) rfl ?_|refine jG ?_ (by decide)|refine jH ?_ (by decide)|refine jI ?_ (by decide)|refine jJ ?_ (by decide)|refine jC ?_ (by decide)|refine jy ?_ (by decide)))
  refine M.call_i (rem_nil (vi b) w9) ?_; rintro _ w10 ⟨rfl, k10⟩
  have b1 := b1.keep k10 (fun h => h)
  (repeat (first|refine ja ?_|refine jb ?_|refine jc ?_|refine jd ?_|refine je ?_|refine jf ?_|refine jg ?_|refine jh ?_|refine ji ?_|refine jj ?_|refine jk ?_|refine jl ?_|refine jm ?_|refine jn ?_|refine jo ?_|refine jp ?_|refine jq ?_|refine jr ?_|refine js ?_|refine jt ?_|refine ju ?_|refine jv ?_|refine jw ?_|refine jx ?_|refine jy ?_|refine jz ?_|refine jA ?_|refine jB ?_|refine jC ?_|refine jD ?_|refine jE ?_|refine jF ?_|refine jG ?_|refine jH ?_|refine jI ?_|refine jJ ?_|refine jK ?_|refine jL ?_|refine jM (by assumption) ?_|refine jN (by assumption) rfl ?_|refine jO (by assumption) ?_|refine jP (by assumption) rfl ?_|refine jQ ?_|refine jR ?_|refine jS ?_|refine jT ?_|refine jU (by assumption) rfl ?_|refine jG ?_ (by decide)|refine jH ?_ (by decide)|refine jI ?_ (by decide)|refine jJ ?_ (by decide)|refine jC ?_ (by decide)|refine jy ?_ (by decide)))
  refine M.call_i (cla_nil (vi b) w10) ?_; rintro _ w11 ⟨rfl, k11⟩
  have b1 := b1.keep k11 (fun h => h)
  (repeat (first|refine ja ?_|refine jb ?_|refine jc ?_|refine jd ?_|refine je ?_|refine jf ?_|refine jg ?_|refine jh ?_|refine ji ?_|refine jj ?_|refine jk ?_|refine jl ?_|refine jm ?_|refine jn ?_|refine jo ?_|refine jp ?_|refine jq ?_|refine jr ?_|refine js ?_|refine jt ?_|refine ju ?_|refine jv ?_|refine jw ?_|refine jx ?_|refine jy ?_|refine jz ?_|refine jA ?_|refine jB ?_|refine jC ?_|refine jD ?_|refine jE ?_|refine jF ?_|refine jG ?_|refine jH ?_|refine jI ?_|refine jJ ?_|refine jK ?_|refine jL ?_|refine jM (by assumption) ?_|refine jN (by assumption) rfl ?_|refine jO (by assumption) ?_|refine jP (by assumption) rfl ?_|refine jQ ?_|refine jR ?_|refine jS ?_|refine jT ?_|refine jU (by assumption) rfl ?_|refine jG ?_ (by decide)|refine jH ?_ (by decide)|refine jI ?_ (by decide)|refine jJ ?_ (by decide)|refine jC ?_ (by decide)|refine jy ?_ (by decide)))
  refine M.call_i (wlen_nil w11) ?_; rintro _ w12 ⟨rfl, k12⟩
  (repeat (first|refine ja ?_|refine jb ?_|refine jc ?_|refine jd ?_|refine je ?_|refine jf ?_|refine jg ?_|refine jh ?_|refine ji ?_|refine jj ?_|refine jk ?_|refine jl ?_|refine jm ?_|refine jn ?_|refine jo ?_|refine jp ?_|refine jq ?_|refine jr ?_|refine js ?_|refine jt ?_|refine ju ?_|refine jv ?_|refine jw ?_|refine jx ?_|refine jy ?_|refine jz ?_|refine jA ?_|refine jB ?_|refine jC ?_|refine jD ?_|refine jE ?_|refine jF ?_|refine jG ?_|refine jH ?_|refine jI ?_|refine jJ ?_|refine jK ?_|refine jL ?_|refine jM (by assumption) ?_|refine jN (by assumption) rfl ?_|refine jO (by assumption) ?_|refine jP (by assumption) rfl ?_|refine jQ ?_|refine jR ?_|refine jS ?_|refine jT ?_|refine jU (by assumption) rfl ?_|refine jG ?_ (by decide)|refine jH ?_ (by decide)|refine jI ?_ (by decide)|refine jJ ?_ (by decide)|refine jC ?_ (by decide)|refine jy ?_ (by decide)))
  refine M.call_i (r10m1_ret w12) ?_; rintro _ w13 ⟨rfl, k13⟩
  (repeat (first|refine ja ?_|refine jb ?_|refine jc ?_|refine jd ?_|refine je ?_|refine jf ?_|refine jg ?_|refine jh ?_|refine ji ?_|refine jj ?_|refine jk ?_|refine jl ?_|refine jm ?_|refine jn ?_|refine jo ?_|refine jp ?_|refine jq ?_|refine jr ?_|refine js ?_|refine jt ?_|refine ju ?_|refine jv ?_|refine jw ?_|refine jx ?_|refine jy ?_|refine jz ?_|refine jA ?_|refine jB ?_|refine jC ?_|refine jD ?_|refine jE ?_|refine jF ?_|refine jG ?_|refine jH ?_|refine jI ?_|refine jJ ?_|refine jK ?_|refine jL ?_|refine jM (by assumption) ?_|refine jN (by assumption) rfl ?_|refine jO (by assumption) ?_|refine jP (by assumption) rfl ?_|refine jQ ?_|refine jR ?_|refine jS ?_|refine jT ?_|refine jU (by assumption) rfl ?_|refine jG ?_ (by decide)|refine jH ?_ (by decide)|refine jI ?_ (by decide)|refine jJ ?_ (by decide)|refine jC ?_ (by decide)|refine jy ?_ (by decide)))
  refine M.pure_i (vi 0) (fun _ => by kernel_rfl) ?_
  (repeat (first|refine ja ?_|refine jb ?_|refine jc ?_|refine jd ?_|refine je ?_|refine jf ?_|refine jg ?_|refine jh ?_|refine ji ?_|refine jj ?_|refine jk ?_|refine jl ?_|refine jm ?_|refine jn ?_|refine jo ?_|refine jp ?_|refine jq ?_|refine jr ?_|refine js ?_|refine jt ?_|refine ju ?_|refine jv ?_|refine jw ?_|refine jx ?_|refine jy ?_|refine jz ?_|refine jA ?_|refine jB ?_|refine jC ?_|refine jD ?_|refine jE ?_|refine jF ?_|refine jG ?_|refine jH ?_|refine jI ?_|refine jJ ?_|refine jK ?_|refine jL ?_|refine jM (by assumption) ?_|refine jN (by assumption) rfl ?_|refine jO (by assumption) ?_|refine jP (by assumption) rfl ?_|refine jQ ?_|refine jR ?_|refine jS ?_|refine jT ?_|refine jU (by assumption) rfl ?_|refine jG ?_ (by decide)|refine jH ?_ (by decide)|refine jI ?_ (by decide)|refine jJ ?_ (by decide)|refine jC ?_ (by decide)|refine jy ?_ (by decide)))
  refine M.call_i (ha w13) ?_; rintro _ w14 ⟨rfl, k14⟩
  (repeat (first|refine ja ?_|refine jb ?_|refine jc ?_|refine jd ?_|refine je ?_|refine jf ?_|refine jg ?_|refine jh ?_|refine ji ?_|refine jj ?_|refine jk ?_|refine jl ?_|refine jm ?_|refine jn ?_|refine jo ?_|refine jp ?_|refine jq ?_|refine jr ?_|refine js ?_|refine jt ?_|refine ju ?_|refine jv ?_|refine jw ?_|refine jx ?_|refine jy ?_|refine jz ?_|refine jA ?_|refine jB ?_|refine jC ?_|refine jD ?_|refine jE ?_|refine jF ?_|refine jG ?_|refine jH ?_|refine jI ?_|refine jJ ?_|refine jK ?_|refine jL ?_|refine jM (by assumption) ?_|refine jN (by assumption) rfl ?_|refine jO (by assumption) ?_|refine jP (by assumption) rfl ?_|refine jQ ?_|refine jR ?_|refine jS ?_|refine jT ?_|refine jU (by assumption) rfl ?_|refine jG ?_ (by decide)|refine jH ?_ (by decide)|refine jI ?_ (by decide)|refine jJ ?_ (by decide)|refine jC ?_ (by decide)|refine jy ?_ (by decide)))
  refine ⟨rfl, ?_⟩
  have t1 := (k1.trans k3 (fun _ _ h => h)).trans (k4.trans k5 (fun _ _ h => h)) (fun _ _ h => h)
  have t2 := (k6.trans k7 (fun _ _ h => h)).trans (k8.trans k9 (fun _ _ h => h)) (fun _ _ h => h)
  have t3 := (k10.trans k11 (fun _ _ h => h)).trans (k12.trans k13 (fun _ _ h => h)) (fun _ _ h => h)
  exact ((t1.trans t2 (fun _ _ h => h)).trans t3 (fun _ _ h => h)).trans k14 (fun _ _ h => h)
end Go.Proofs.Ytnkechekdncnlaa
