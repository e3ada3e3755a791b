import Derived.Test.YtkpgmbifaohjgaaSync10
namespace Go.Proofs.Ytkpgmbifaohjgaa
open Go.Mw
set_option linter.unusedVariables false
set_option linter.unusedSimpArgs false
set_option maxRecDepth 100000
attribute [local irreducible] M.val M.unit M.next M.pick M.new M.nilCheck M.load1 M.loadA M.store M.fieldAddr M.indexSl M.indexArr M.slice M.makeSlice M.buildSlice M.len M.lenS M.cap M.append M.extract M.conv M.not M.neg M.bin M.shift M.eqB M.eqNil M.call M.callv M.gd M.share M.cond M.loop M.draw pureW readW Ret
/-! breakwater/breakwaterlaw10.TrailPlays: function 4 -/
def sh4 (x0 x1 x2 : Value) (R : Kt) (w : World) : Prop :=
  M.len x1 (fun t13 w =>
  M.bin .gtr t13 (Value.int IntKind.i64 120) (fun t14 w =>
  M.gd t14 false (fun k w => k x0 w) (fun t16 w =>
  M.gd t14 false (fun k w => M.bin .gtr t16 (Value.int IntKind.i64 1000) k w) (fun t17 w =>
  M.pick t14 (Value.bool true) t17 (fun t18 w =>
  M.cond t18
  (M.call Try.prog 22 #[] (fun t19 w =>
  R t19 w) w)
  (M.call Try.prog 23 #[x0] (fun t21 w =>
  M.call Try.prog 24 #[x0] (fun t23 w =>
  M.new 47 #[.int .i64 0, .slice none 0 0, .int .i64 0] (fun t8 w =>
  M.store 3 t8 t23 (fun _ w =>
  M.eqNil 0 false t21 (fun t25 w =>
  M.cond t25
  (R (Value.bool false) w)
  (M.loop [(Value.int IntKind.i64 0)] (fun s1 K1 w => ∀ _ : List Value,
  M.len x1 (fun t28 w =>
  M.bin .lss (s1.getD 0 undef) t28 (fun t29 w =>
  M.cond t29
  (M.share (fun K2 w =>
  M.draw (fun w =>
  M.loadA 3 t8 (fun t34 w =>
  M.indexSl 3 x1 (s1.getD 0 undef) (fun t37 w =>
  M.loadA 3 t37 (fun t38 w =>
  ((M.call Try.prog 25 #[t21, t34, t38] (fun t39 w =>
  M.extract 0 t39 (fun t40 w =>
  M.extract 1 t39 (fun t41 w =>
  M.new 47 #[.int .i64 0, .slice none 0 0, .int .i64 0] (fun t10 w =>
  M.store 3 t10 t40 (fun _ w =>
  K2 [t10, t41] w) w) w) w) w) w) ∧
   (M.new 47 #[.int .i64 0, .slice none 0 0, .int .i64 0] (fun t10_2 w =>
  ((M.loadA 3 t37 (fun v' _ => v' = t38) w) ∧ ((M.loadA 3 t8 (fun v' _ => v' = t34) w) ∧ M.call Try.prog 25 #[t21, t34, t38] (fun t39_2 w =>
  M.extract 0 t39_2 (fun t40_2 w =>
  M.extract 1 t39_2 (fun t41_2 w =>
  M.store 3 t10_2 t40_2 (fun _ w =>
  K2 [t10_2, t41_2] w) w) w) w) w))) w))) w) w) w) w) (fun s2 w => ∀ _ : List Value,
  M.loadA 3 (s2.getD 0 undef) (fun t42 w =>
  M.store 3 t8 t42 (fun _ w =>
  M.draw (fun w =>
  M.bin .eql (s2.getD 1 undef) (Value.int IntKind.i64 0) (fun t44 w =>
  M.gd t44 false (fun k w => k t21 w) (fun t46 w =>
  M.gd t44 false (fun k w => M.fieldAddr 2 t8 k w) (fun t48 w =>
  M.gd t44 false (fun k w => M.load1 t48 k w) (fun t49 w =>
  M.gd t44 false (fun k w => M.call Try.prog 26 #[t46] k w) (fun t47 w =>
  ((M.gd t44 false (fun k w => M.load1 t48 k w) (fun v' _ => v' = t49) w) ∧ M.gd t44 false (fun k w => M.bin .neq t47 t49 k w) (fun t50 w =>
  M.pick t44 (Value.bool true) t50 (fun t51 w =>
  M.gd t51 false (fun k w => k t21 w) (fun t53 w =>
  M.gd t51 false (fun k w => k x1 w) (fun t54 w =>
  M.gd t51 false (fun k w => k (s1.getD 0 undef) w) (fun t55 w =>
  M.gd t51 false (fun k w => M.indexSl 3 t54 t55 k w) (fun t56 w =>
  M.gd t51 false (fun k w => M.fieldAddr 1 t56 k w) (fun t57 w =>
  M.gd t51 false (fun k w => M.load1 t57 k w) (fun t58 w =>
  M.gd t51 false (fun k w => M.loadA 3 t8 k w) (fun t60 w =>
  M.gd t51 false (fun k w => k x1 w) (fun t61 w =>
  M.gd t51 false (fun k w => k (s1.getD 0 undef) w) (fun t62 w =>
  M.gd t51 false (fun k w => M.indexSl 3 t61 t62 k w) (fun t63 w =>
  M.gd t51 false (fun k w => M.fieldAddr 1 t63 k w) (fun t64 w =>
  M.gd t51 false (fun k w => M.load1 t64 k w) (fun t65 w =>
  M.gd t51 false (fun k w => M.call Try.prog 27 #[t53, t58] k w) (fun t59 w =>
  ((M.gd t51 false (fun k w => M.load1 t64 k w) (fun v' _ => v' = t65) w) ∧ ((M.gd t51 false (fun k w => M.loadA 3 t8 k w) (fun v' _ => v' = t60) w) ∧ ((M.gd t44 false (fun k w => M.load1 t48 k w) (fun v' _ => v' = t49) w) ∧ M.gd t51 false (fun k w => M.call Try.prog 28 #[t60, t65] k w) (fun t66 w =>
  ((M.gd t44 false (fun k w => M.load1 t48 k w) (fun v' _ => v' = t49) w) ∧ M.gd t51 false (fun k w => M.bin .neq t59 t66 k w) (fun t67 w =>
  M.pick t51 (Value.bool true) t67 (fun t68 w =>
  M.gd t68 false (fun k w => k t21 w) (fun t70 w =>
  M.gd t68 false (fun k w => k x2 w) (fun t71 w =>
  M.gd t68 false (fun k w => M.loadA 3 t8 k w) (fun t73 w =>
  M.gd t68 false (fun k w => k x2 w) (fun t74 w =>
  M.gd t68 false (fun k w => M.call Try.prog 27 #[t70, t71] k w) (fun t72 w =>
  ((M.gd t68 false (fun k w => M.loadA 3 t8 k w) (fun v' _ => v' = t73) w) ∧ ((M.gd t44 false (fun k w => M.load1 t48 k w) (fun v' _ => v' = t49) w) ∧ M.gd t68 false (fun k w => M.call Try.prog 28 #[t73, t74] k w) (fun t75 w =>
  ((M.gd t44 false (fun k w => M.load1 t48 k w) (fun v' _ => v' = t49) w) ∧ M.gd t68 false (fun k w => M.bin .neq t72 t75 k w) (fun t76 w =>
  M.pick t68 (Value.bool true) t76 (fun t77 w =>
  M.gd t77 false (fun k w => k t21 w) (fun t79 w =>
  M.gd t77 false (fun k w => k x2 w) (fun t80 w =>
  M.gd t77 false (fun k w => M.loadA 3 t8 k w) (fun t82 w =>
  M.gd t77 false (fun k w => k x2 w) (fun t83 w =>
  M.gd t77 false (fun k w => M.call Try.prog 29 #[t79, t80] k w) (fun t81 w =>
  ((M.gd t77 false (fun k w => M.loadA 3 t8 k w) (fun v' _ => v' = t82) w) ∧ ((M.gd t44 false (fun k w => M.load1 t48 k w) (fun v' _ => v' = t49) w) ∧ M.gd t77 false (fun k w => M.call Try.prog 30 #[t82, t83] k w) (fun t84 w =>
  ((M.gd t44 false (fun k w => M.load1 t48 k w) (fun v' _ => v' = t49) w) ∧ M.gd t77 false (fun k w => M.bin .neq t81 t84 k w) (fun t85 w =>
  M.pick t77 (Value.bool true) t85 (fun t86 w =>
  M.gd t86 false (fun k w => k t21 w) (fun t88 w =>
  M.gd t86 false (fun k w => k x2 w) (fun t89 w =>
  M.gd t86 false (fun k w => M.loadA 3 t8 k w) (fun t91 w =>
  M.gd t86 false (fun k w => k x2 w) (fun t92 w =>
  M.gd t86 false (fun k w => M.call Try.prog 31 #[t88, t89] k w) (fun t90 w =>
  ((M.gd t86 false (fun k w => M.loadA 3 t8 k w) (fun v' _ => v' = t91) w) ∧ ((M.gd t44 false (fun k w => M.load1 t48 k w) (fun v' _ => v' = t49) w) ∧ M.gd t86 false (fun k w => M.call Try.prog 32 #[t91, t92] k w) (fun t93 w =>
  ((M.gd t44 false (fun k w => M.load1 t48 k w) (fun v' _ => v' = t49) w) ∧ M.gd t86 false (fun k w => M.bin .neq t90 t93 k w) (fun t94 w =>
  M.pick t86 (Value.bool true) t94 (fun t95 w =>
  M.cond t95
  (R (Value.bool false) w)
  (M.bin .add (s1.getD 0 undef) (Value.int IntKind.i64 1) (fun t31 w =>
  K1 [t31] w) w)) w) w)) w))) w) w) w) w) w) w) w)) w))) w) w) w) w) w) w) w)) w))) w) w) w) w) w) w) w)) w)))) w) w) w) w) w) w) w) w) w) w) w) w) w) w) w)) w) w) w) w) w) w) w) w) w)
  (M.draw (fun w =>
  M.loadA 3 t8 (fun t98 w =>
  M.call Try.prog 33 #[t21] (fun t97 w =>
  ((M.loadA 3 t8 (fun v' _ => v' = t98) w) ∧ M.call Try.prog 34 #[t98] (fun t99 w =>
  M.call Try.prog 16 #[t97, t99] (fun t100 w =>
  M.gd t100 true (fun k w => M.call Try.prog 22 #[] k w) (fun t102 w =>
  M.pick t100 t102 (Value.bool false) (fun t103 w =>
  R t103 w) w) w) w) w)) w) w) w)) w) w) w)) w) w) w) w) w)) w) w) w) w) w
theorem ok4 (x0 x1 x2 : Value) (R : Kt) (w : World) (h : sh4 x0 x1 x2 R w) : Ret Try.prog 4 #[x0, x1, x2] w R :=
  ret_mk <| calls_of_comp mixed (c := Try.f4.body.getD .skip) (args := [x0, x1, x2]) (rs := [(ResultVar.tmp 6)]) (Ann.seq Ann.text (Ann.seq (Ann.seq Ann.text (Ann.cond (Ann.seq Ann.text Ann.leaf) Ann.leaf)) (Ann.seq Ann.text (Ann.seq (Ann.seq Ann.text (Ann.cond (Ann.seq Ann.text Ann.leaf) Ann.leaf)) (Ann.seq (Ann.seq Ann.text (Ann.block (Ann.loop [9] [6, 10, 11, 26, 27, 28, 29, 30, 31, 32, 33, 34, 35, 36, 37, 38, 39, 40, 41, 42, 43, 44, 45, 46, 47, 48, 49, 50, 51, 52, 53, 54, 55, 56, 57, 58, 59, 60, 61, 62, 63, 64, 65, 66, 67, 68, 69, 70, 71, 72, 73, 74, 75, 76, 77, 78, 79, 80, 81, 82, 83, 84, 85, 86, 87, 88, 89, 90, 91, 92, 93, 94, 95] (Ann.seq (Ann.seq Ann.text (Ann.cond Ann.leaf Ann.leaf)) (Ann.seq (Ann.block (Ann.join [10, 11] [32, 33, 34, 35, 36, 37, 38, 39, 40, 41] (Ann.draw (Sch.take 0 (Sch.take 1 (Sch.take 2 (Sch.take 3 (Sch.take 4 (Sch.take 5 (Sch.two 6 10 (Sch.take 7 (Sch.take 8 (Sch.take 9 (Sch.one 10 (Sch.one 11 (Sch.take 12 Sch.done)))))) (Sch.one 6 (Sch.take 7 (Sch.take 8 (Sch.take 9 (Sch.one 11 (Sch.take 12 Sch.done)))))))))))))) (Ann.seq Ann.text (Ann.seq (Ann.draw (Sch.take 0 (Sch.take 1 (Sch.take 2 (Sch.take 3 (Sch.take 5 (Sch.take 6 (Sch.one 4 (Sch.take 7 (Sch.take 8 (Sch.take 9 (Sch.take 10 (Sch.take 11 (Sch.take 12 (Sch.take 13 (Sch.take 14 (Sch.take 15 (Sch.take 17 (Sch.take 18 (Sch.take 19 (Sch.take 20 (Sch.take 21 (Sch.take 22 (Sch.one 16 (Sch.one 23 (Sch.take 24 (Sch.take 25 (Sch.take 26 (Sch.take 27 (Sch.take 28 (Sch.take 30 (Sch.take 31 (Sch.one 29 (Sch.one 32 (Sch.take 33 (Sch.take 34 (Sch.take 35 (Sch.take 36 (Sch.take 37 (Sch.take 39 (Sch.take 40 (Sch.one 38 (Sch.one 41 (Sch.take 42 (Sch.take 43 (Sch.take 44 (Sch.take 45 (Sch.take 46 (Sch.take 48 (Sch.take 49 (Sch.one 47 (Sch.one 50 (Sch.take 51 (Sch.take 52 Sch.done)))))))))))))))))))))))))))))))))))))))))))))))))))))) (Ann.cond (Ann.seq Ann.text Ann.leaf) Ann.leaf))))) Ann.text))))) (Ann.seq (Ann.draw (Sch.take 0 (Sch.take 2 (Sch.one 1 (Sch.one 3 (Sch.one 4 (Sch.take 5 (Sch.one 6 (Sch.take 7 (Sch.take 8 Sch.done)))))))))) Ann.leaf))))))
    Try.func4 (by kernel_rfl) (by kernel_rfl)
    (Eq.mp (by kernel_rfl) h)


theorem _root_.Go.Mw.Keep.cell {w w' : World} {S : Nat → Prop} (k : Keep w w' S) {b o : Nat} {v : Value} (hs : ¬ S b) (h : w.cell? ⟨b, o, none⟩ = some v) : w'.cell? ⟨b, o, none⟩ = some v := by
  have hb : b < w.heap.size := by
    apply Classical.byContradiction
    intro hn
    have : w.heap[b]? = none := by simp; omega
    simp [World.cell?, this] at h
  have e : w'.heap[b]? = w.heap[b]? := k.blk b hb hs
  simpa [World.cell?, e] using h
set_option maxHeartbeats 4000000 in
theorem trailPlays_ret {w : World} {D : Nat → Prop} {A : Option Addr} {c : Nat} (ds : List Ent) (hr : Row w D A (ds.flatMap en)) (hI : ∀ e ∈ ds, I64 e.lev) (vars at0 : Int) (ha : I64 at0) :
    Ret Try.prog 4 #[vi vars, .slice A ds.length c, vi at0] w (fun v w' => v = .bool true ∧ Keep w w' No) := by
  refine ok4 _ _ _ _ _ ?_
  unfold sh4
  by_cases h1 : (120 : Int) < ds.length
  · (repeat (first | refine M.len_i ?_ | refine M.nilCheck_i ?_ | refine M.field_i ?_ | refine M.draw_i ?_ | refine M.cap_i ?_ | refine M.gd_tt ?_ | refine M.gd_ff ?_ | refine M.gd_ft ?_ | refine M.gd_tf ?_ | refine M.pick_t ?_ | refine M.pick_f ?_ | refine M.not_t ?_ | refine M.not_f ?_ | refine M.cond_t ?_ | refine M.cond_f ?_ | refine M.eqNilP_tn ?_ | refine M.eqNilP_ts ?_ | refine M.eqNilP_fn ?_ | refine M.eqNilP_fs ?_ | refine M.eqNilS_tn ?_ | refine M.eqNilS_ts ?_ | refine M.eqNilS_fn ?_ | refine M.eqNilS_fs ?_ | refine M.lss_t (by omega) ?_ | refine M.lss_f (by omega) ?_ | refine M.leq_t (by omega) ?_ | refine M.leq_f (by omega) ?_ | refine M.gtr_t (by omega) ?_ | refine M.gtr_f (by omega) ?_ | refine M.geq_t (by omega) ?_ | refine M.geq_f (by omega) ?_ | refine M.eql_t (by omega) ?_ | refine M.eql_f (by omega) ?_ | refine M.neq_t (by omega) ?_ | refine M.neq_f (by omega) ?_ | refine M.add_i (by omega) (by omega) ?_ | refine M.sub_i (by omega) (by omega) ?_ | refine M.load_i (by assumption) ?_ | refine M.loadB_i (by assumption) rfl ?_ | refine M.st_i (by assumption) ?_ | refine M.stB_i (by assumption) rfl ?_ | refine M.gs_ff ?_ | refine M.gs_tt ?_ | refine M.gs_ft ?_ | refine M.gs_tf ?_ | refine M.stAll_i (by assumption) rfl ?_))
    refine M.call_i (awake_ret w) ?_; rintro _ w1 ⟨rfl, k1⟩
    exact ⟨rfl, k1⟩
  by_cases h2 : 1000 < vars
  · (repeat (first | refine M.len_i ?_ | refine M.nilCheck_i ?_ | refine M.field_i ?_ | refine M.draw_i ?_ | refine M.cap_i ?_ | refine M.gd_tt ?_ | refine M.gd_ff ?_ | refine M.gd_ft ?_ | refine M.gd_tf ?_ | refine M.pick_t ?_ | refine M.pick_f ?_ | refine M.not_t ?_ | refine M.not_f ?_ | refine M.cond_t ?_ | refine M.cond_f ?_ | refine M.eqNilP_tn ?_ | refine M.eqNilP_ts ?_ | refine M.eqNilP_fn ?_ | refine M.eqNilP_fs ?_ | refine M.eqNilS_tn ?_ | refine M.eqNilS_ts ?_ | refine M.eqNilS_fn ?_ | refine M.eqNilS_fs ?_ | refine M.lss_t (by omega) ?_ | refine M.lss_f (by omega) ?_ | refine M.leq_t (by omega) ?_ | refine M.leq_f (by omega) ?_ | refine M.gtr_t (by omega) ?_ | refine M.gtr_f (by omega) ?_ | refine M.geq_t (by omega) ?_ | refine M.geq_f (by omega) ?_ | refine M.eql_t (by omega) ?_ | refine M.eql_f (by omega) ?_ | refine M.neq_t (by omega) ?_ | refine M.neq_f (by omega) ?_ | refine M.add_i (by omega) (by omega) ?_ | refine M.sub_i (by omega) (by omega) ?_ | refine M.load_i (by assumption) ?_ | refine M.loadB_i (by assumption) rfl ?_ | refine M.st_i (by assumption) ?_ | refine M.stB_i (by assumption) rfl ?_ | refine M.gs_ff ?_ | refine M.gs_tt ?_ | refine M.gs_ft ?_ | refine M.gs_tf ?_ | refine M.stAll_i (by assumption) rfl ?_))
    refine M.call_i (awake_ret w) ?_; rintro _ w1 ⟨rfl, k1⟩
    exact ⟨rfl, k1⟩
  (repeat (first | refine M.len_i ?_ | refine M.nilCheck_i ?_ | refine M.field_i ?_ | refine M.draw_i ?_ | refine M.cap_i ?_ | refine M.gd_tt ?_ | refine M.gd_ff ?_ | refine M.gd_ft ?_ | refine M.gd_tf ?_ | refine M.pick_t ?_ | refine M.pick_f ?_ | refine M.not_t ?_ | refine M.not_f ?_ | refine M.cond_t ?_ | refine M.cond_f ?_ | refine M.eqNilP_tn ?_ | refine M.eqNilP_ts ?_ | refine M.eqNilP_fn ?_ | refine M.eqNilP_fs ?_ | refine M.eqNilS_tn ?_ | refine M.eqNilS_ts ?_ | refine M.eqNilS_fn ?_ | refine M.eqNilS_fs ?_ | refine M.lss_t (by omega) ?_ | refine M.lss_f (by omega) ?_ | refine M.leq_t (by omega) ?_ | refine M.leq_f (by omega) ?_ | refine M.gtr_t (by omega) ?_ | refine M.gtr_f (by omega) ?_ | refine M.geq_t (by omega) ?_ | refine M.geq_f (by omega) ?_ | refine M.eql_t (by omega) ?_ | refine M.eql_f (by omega) ?_ | refine M.neq_t (by omega) ?_ | refine M.neq_f (by omega) ?_ | refine M.add_i (by omega) (by omega) ?_ | refine M.sub_i (by omega) (by omega) ?_ | refine M.load_i (by assumption) ?_ | refine M.loadB_i (by assumption) rfl ?_ | refine M.st_i (by assumption) ?_ | refine M.stB_i (by assumption) rfl ?_ | refine M.gs_ff ?_ | refine M.gs_tt ?_ | refine M.gs_ft ?_ | refine M.gs_tf ?_ | refine M.stAll_i (by assumption) rfl ?_))
  refine M.call_i (new_ret vars w) ?_; rintro _ w1 ⟨p, lab1, rfl, hT1, k1, hl1⟩
  refine M.call_i (rnew_ret vars w1) ?_; rintro _ w2 ⟨hV2, k2⟩
  obtain ⟨A2, c2, rfl, hc2, hr2⟩ := hV2
  have hT2 := hT1.keep k2 (fun _ _ _ h => h)
  refine M.new_i (fun w3 hX k3 s3 => ?_)
  refine M.storeAll_i hX rfl rfl (tri_one _ _ _ rfl rfl rfl) (fun w4 hX k4 s4 => ?_)
  have q1 := k1.size; have q2 := k2.size
  have k14 : Keep w w4 No := (((k1.trans k2 (fun _ _ h => h)).trans k3 (fun _ _ h => h)).trans k4 (fun b hb h => by omega))
  have hT4 := (hT2.keep k3 (fun _ _ _ h => h)).keep k4 (fun b hb h1 h2 => by subst h2; exact h1 (hT2.lab0 (Nat.le_refl _)))
  have hlx : lab1 w2.heap.size = 0 := hT2.lab0 (Nat.le_refl _)
  have hr4 := ((hr2.mono (D' := fun b => w1.heap.size ≤ b ∧ b < w2.heap.size) (fun b hb h => ⟨h, hb⟩)).keep k3 (fun _ _ _ h => h)).keep k4 (fun b hb h1 h2 => by omega)
  generalize hbx : w2.heap.size = bx at *
  have hr0 := hr.mono (D' := fun b => b < w.heap.size) (fun b hb _ => hb)
  (repeat (first | refine M.len_i ?_ | refine M.nilCheck_i ?_ | refine M.field_i ?_ | refine M.draw_i ?_ | refine M.cap_i ?_ | refine M.gd_tt ?_ | refine M.gd_ff ?_ | refine M.gd_ft ?_ | refine M.gd_tf ?_ | refine M.pick_t ?_ | refine M.pick_f ?_ | refine M.not_t ?_ | refine M.not_f ?_ | refine M.cond_t ?_ | refine M.cond_f ?_ | refine M.eqNilP_tn ?_ | refine M.eqNilP_ts ?_ | refine M.eqNilP_fn ?_ | refine M.eqNilP_fs ?_ | refine M.eqNilS_tn ?_ | refine M.eqNilS_ts ?_ | refine M.eqNilS_fn ?_ | refine M.eqNilS_fs ?_ | refine M.lss_t (by omega) ?_ | refine M.lss_f (by omega) ?_ | refine M.leq_t (by omega) ?_ | refine M.leq_f (by omega) ?_ | refine M.gtr_t (by omega) ?_ | refine M.gtr_f (by omega) ?_ | refine M.geq_t (by omega) ?_ | refine M.geq_f (by omega) ?_ | refine M.eql_t (by omega) ?_ | refine M.eql_f (by omega) ?_ | refine M.neq_t (by omega) ?_ | refine M.neq_f (by omega) ?_ | refine M.add_i (by omega) (by omega) ?_ | refine M.sub_i (by omega) (by omega) ?_ | refine M.load_i (by assumption) ?_ | refine M.loadB_i (by assumption) rfl ?_ | refine M.st_i (by assumption) ?_ | refine M.stB_i (by assumption) rfl ?_ | refine M.gs_ff ?_ | refine M.gs_tt ?_ | refine M.gs_ft ?_ | refine M.gs_tf ?_ | refine M.stAll_i (by assumption) rfl ?_))
  refine M.loop_i (σ := Tr × (Nat → Nat) × Nat × Option Addr × Nat) (fun s vals w' => vals = [vi s.2.2.1] ∧ s.2.2.1 ≤ ds.length ∧ TRep w' p s.2.1 s.1 ∧ s.1.Good ∧ Blk w' bx [vi s.1.vars, .slice s.2.2.2.1 s.1.L.length s.2.2.2.2, vi s.1.begins.length] ∧ s.1.L.length ≤ s.2.2.2.2 ∧
      Row w' (fun z => s.2.1 z = 0 ∧ w.heap.size ≤ z ∧ z ≠ bx) s.2.2.2.1 (s.1.L.flatMap en) ∧ s.2.1 bx = 0 ∧ (∀ z, s.2.1 z ≠ 0 → w.heap.size ≤ z) ∧ Keep w w' No) (fun s => ds.length - s.2.2.1) (Tr.new vars, lab1, 0, A2, c2)
    ⟨rfl, by show 0 ≤ ds.length; omega, hT4, good_new _, ?_, ?_, ?_, hlx, hl1, k14⟩ ?_
  · rw [← toR_new] at hX; exact hX
  · rw [← toR_new] at hc2; exact hc2
  · rw [← toR_new] at hr4
    exact hr4.mono (fun b hb h => ⟨hT1.lab0 h.1, by omega, by omega⟩)
  rintro ⟨t, lab, i, Ax, cx⟩ vals w5 K ⟨rfl, hi, hT, hg, hX, hcx, hRx, hlx, hlb, k5⟩ hK _
  clear hr4 hT4 hT2 hT1 hr2 hc2
  simp only at hi hT hg hX hcx hRx hlx hlb
  simp only [List.getD_cons_zero, List.getD_cons_succ]
  have hr5 := hr0.keep k5 (fun _ _ _ h => h)
  have q5 := k5.size
  have qx := hX.lt
  obtain ⟨a1, a2, a3, ok⟩ := hT.ok
  by_cases hlt : i < ds.length
  · obtain ⟨e, he⟩ : ∃ e, ds[i]? = some e := ⟨_, List.getElem?_eq_getElem hlt⟩
    obtain ⟨g0, g1, g2⟩ := en_get _ _ _ he
    have hIe := hI e (List.mem_of_getElem? he)
    have hgd := hg.doD ok e.lit e.lev e.rea
    have hrd := toR_doD ok hg e.lit e.lev e.rea
    have hsd := toR_same ok hg e.lit e.lev e.rea
    (repeat (first | refine M.len_i ?_ | refine M.nilCheck_i ?_ | refine M.field_i ?_ | refine M.draw_i ?_ | refine M.cap_i ?_ | refine M.gd_tt ?_ | refine M.gd_ff ?_ | refine M.gd_ft ?_ | refine M.gd_tf ?_ | refine M.pick_t ?_ | refine M.pick_f ?_ | refine M.not_t ?_ | refine M.not_f ?_ | refine M.cond_t ?_ | refine M.cond_f ?_ | refine M.eqNilP_tn ?_ | refine M.eqNilP_ts ?_ | refine M.eqNilP_fn ?_ | refine M.eqNilP_fs ?_ | refine M.eqNilS_tn ?_ | refine M.eqNilS_ts ?_ | refine M.eqNilS_fn ?_ | refine M.eqNilS_fs ?_ | refine M.lss_t (by omega) ?_ | refine M.lss_f (by omega) ?_ | refine M.leq_t (by omega) ?_ | refine M.leq_f (by omega) ?_ | refine M.gtr_t (by omega) ?_ | refine M.gtr_f (by omega) ?_ | refine M.geq_t (by omega) ?_ | refine M.geq_f (by omega) ?_ | refine M.eql_t (by omega) ?_ | refine M.eql_f (by omega) ?_ | refine M.neq_t (by omega) ?_ | refine M.neq_f (by omega) ?_ | refine M.add_i (by omega) (by omega) ?_ | refine M.sub_i (by omega) (by omega) ?_ | refine M.load_i (by assumption) ?_ | refine M.loadB_i (by assumption) rfl ?_ | refine M.st_i (by assumption) ?_ | refine M.stB_i (by assumption) rfl ?_ | refine M.gs_ff ?_ | refine M.gs_tt ?_ | refine M.gs_ft ?_ | refine M.gs_tf ?_ | refine M.stAll_i (by assumption) rfl ?_))
    refine M.share_j (fun vals w' => ∃ lab' A' c' bt, vals = [ptr bt, vi 1] ∧ bt ≠ bx ∧ Blk w' bt [vi (t.doD e.lit e.lev e.rea).vars, .slice A' (t.doD e.lit e.lev e.rea).L.length c', vi (t.doD e.lit e.lev e.rea).begins.length] ∧ (t.doD e.lit e.lev e.rea).L.length ≤ c' ∧
        Row w' (fun z => lab' z = 0 ∧ w.heap.size ≤ z ∧ z ≠ bx) A' ((t.doD e.lit e.lev e.rea).L.flatMap en) ∧ TRep w' p lab' (t.doD e.lit e.lev e.rea) ∧ Blk w' bx [vi t.vars, .slice Ax t.L.length cx, vi t.begins.length] ∧ lab' bx = 0 ∧ (∀ z, lab' z ≠ 0 → w.heap.size ≤ z) ∧ Keep w w' No) ?_ ?_
    rotate_left
    · intro K2 hK2
      refine M.draw_i ?_
      have kd : Keep w5 w5.drew No := Keep.drew _ _
      replace hT := hT.keep kd (fun _ _ _ h => h)
      replace hX := hX.keep kd (fun h => h)
      replace hRx := hRx.keep kd (fun _ _ _ h => h)
      replace hr5 := hr5.keep kd (fun _ _ _ h => h)
      replace k5 := k5.trans kd (fun _ _ h => h)
      generalize w5.drew = w6 at *
      have q6 := k5.size
      have q56 := kd.size
      refine M.loadAll_i hX rfl ?_
      refine M.idxRowN_i hr5 (en_len _) (by omega) (by omega) (by omega) (fun b o hA hc => ?_)
      have c0 := hc 0 (by omega)
      have c1 := hc 1 (by omega)
      have c2 := hc 2 (by omega)
      simp only [Int.toNat_natCast] at c0 c1 c2
      rw [g0] at c0; rw [g1] at c1; rw [g2] at c2
      refine M.load3_i c0 c1 c2 ?_
      refine ⟨?_, ?_⟩
      · refine M.call_i (do_ret (D := fun z => (lab z = 0 ∧ w.heap.size ≤ z ∧ z ≠ bx) ∧ z < w6.heap.size) hT hg.wf ⟨_, _, rfl, hcx, hRx.mono (fun z hz h => ⟨h, hz⟩)⟩ (toR_fit ok) (fun _ _ h => h.1.1) e.lit e.lev e.rea hIe) ?_; rintro _ w7 ⟨v7, lab7, rfl, hT7, hm7, hV7⟩
        rw [hsd, ← hrd] at *
        obtain ⟨A7, c7, rfl, hc7, hR7⟩ := hV7
        refine M.extract_i rfl ?_
        refine M.extract_i rfl ?_
        refine M.new_i (fun w8 hN k8 s8 => ?_)
        refine M.storeAll_i hN rfl rfl (tri_one _ _ _ rfl rfl rfl) (fun w9 hN k9 s9 => ?_)
        have q7 := hm7.1.size; have q8 := k8.size
        have hX7 := hX.keep hm7.1 (fun h => h hlx)
        have hX9 := (hX7.keep k8 (fun h => h)).keep k9 (fun h => by omega)
        have hT9 := (hT7.keep k8 (fun _ _ _ h => h)).keep k9 (fun b hb h1 h2 => by subst h2; exact h1 (hT7.lab0 (Nat.le_refl _)))
        have hR9 := ((hR7.mono (D' := fun z => (lab7 z = 0 ∧ w.heap.size ≤ z ∧ z ≠ bx) ∧ z < w7.heap.size) (fun z hz h => by
          refine ⟨?_, hz⟩
          rcases h with ⟨⟨h1, h2, h3⟩, h4⟩ | ⟨h1, h2⟩
          · exact ⟨by rw [hm7.2 z h4]; exact h1, h2, h3⟩
          · exact ⟨h2, by omega, by omega⟩)).keep k8 (fun _ _ _ h => h)).keep k9 (fun b hb h1 h2 => by omega)
        have k79 : Keep w w9 No := ((k5.trans hm7.1 (fun z hz h => by have := hlb z h; omega)).trans k8 (fun _ _ h => h)).trans k9 (fun b hb h => by omega)
        have hl7 : ∀ z, lab7 z ≠ 0 → w.heap.size ≤ z := fun z hz => by
          by_cases hz6 : z < w6.heap.size
          · rw [hm7.2 z hz6] at hz; exact hlb z hz
          · omega
        refine hK2 _ _ ⟨lab7, A7, c7, w7.heap.size, rfl, by omega, hN, hc7, hR9.mono (fun _ _ h => h.1), hT9, hX9, by rw [hm7.2 _ (by omega)]; exact hlx, hl7, k79⟩
      · have hl6 : lab w6.heap.size = 0 := hT.lab0 (Nat.le_refl _)
        refine M.new_i (fun w6b hN k6 s6 => ?_)
        have q6b := k6.size
        replace hT := hT.keep k6 (fun _ _ _ h => h)
        replace hX := hX.keep k6 (fun h => h)
        replace hRx := (hRx.mono (D' := fun z => (lab z = 0 ∧ w.heap.size ≤ z ∧ z ≠ bx) ∧ z < w6.heap.size) (fun z hz h => ⟨h, hz⟩)).keep k6 (fun _ _ _ h => h)
        replace c0 := k6.cell (fun h => h) c0
        replace c1 := k6.cell (fun h => h) c1
        replace c2 := k6.cell (fun h => h) c2
        refine M.st3_i c0 c1 c2 ?_
        refine M.stAll_i hX rfl ?_
        refine M.call_i (do_ret (D := fun z => (lab z = 0 ∧ w.heap.size ≤ z ∧ z ≠ bx) ∧ z < w6.heap.size) hT hg.wf ⟨_, _, rfl, hcx, hRx⟩ (toR_fit ok) (fun _ _ h => h.1.1) e.lit e.lev e.rea hIe) ?_; rintro _ w7 ⟨v7, lab7, rfl, hT7, hm7, hV7⟩
        rw [hsd, ← hrd] at *
        obtain ⟨A7, c7, rfl, hc7, hR7⟩ := hV7
        refine M.extract_i rfl ?_
        refine M.extract_i rfl ?_
        replace hN := hN.keep hm7.1 (fun h => h hl6)
        refine M.storeAll_i hN rfl rfl (tri_one _ _ _ rfl rfl rfl) (fun w9 hN k9 s9 => ?_)
        have q7 := hm7.1.size
        have hX7 := hX.keep hm7.1 (fun h => h hlx)
        have hX9 := hX7.keep k9 (fun h => by omega)
        have hl67 : lab7 w6.heap.size = 0 := by rw [hm7.2 _ (by omega)]; exact hl6
        have hT9 := hT7.keep k9 (fun b hb h1 h2 => by subst h2; exact h1 hl67)
        have hR9 := (hR7.mono (D' := fun z => (lab7 z = 0 ∧ w.heap.size ≤ z ∧ z ≠ bx) ∧ z ≠ w6.heap.size) (fun z hz h => by
          rcases h with ⟨⟨h1, h2, h3⟩, h4⟩ | ⟨h1, h2⟩
          · exact ⟨⟨by rw [hm7.2 z (by omega)]; exact h1, h2, h3⟩, by omega⟩
          · exact ⟨⟨h2, by omega, by omega⟩, by omega⟩)).keep k9 (fun b hb h1 h2 => by omega)
        have k79 : Keep w w9 No := ((k5.trans k6 (fun _ _ h => h)).trans hm7.1 (fun z hz h => by have := hlb z h; omega)).trans k9 (fun b hb h => by omega)
        have hl7 : ∀ z, lab7 z ≠ 0 → w.heap.size ≤ z := fun z hz => by
          by_cases hz6 : z < w6b.heap.size
          · rw [hm7.2 z hz6] at hz; exact hlb z hz
          · omega
        refine hK2 _ _ ⟨lab7, A7, c7, w6.heap.size, rfl, by omega, hN, hc7, hR9.mono (fun _ _ h => h.1), hT9, hX9, by rw [hm7.2 _ (by omega)]; exact hlx, hl7, k79⟩
    · rintro vals w6 ⟨lab', A', c', bt, rfl, hbt, hBt, hc', hR', hT', hX', hlx', hlb', k6⟩ _
      clear hT hX hRx hr5 ok
      generalize t.doD e.lit e.lev e.rea = t' at *
      obtain ⟨a1, a2, a3, ok⟩ := hT'.ok
      have fit := toR_fit ok
      simp only [List.getD_cons_zero, List.getD_cons_succ]
      refine M.loadAll_i hBt rfl ?_
      refine M.storeAll_i hX' rfl rfl (tri_one _ _ _ rfl rfl rfl) (fun w7 hX7 k7 s7 => ?_)
      have hT7 := hT'.keep k7 (fun b hb h1 h2 => by subst h2; exact h1 hlx')
      have hR7 := hR'.keep k7 (fun b hb h1 h2 => h1.2.2 h2)
      replace k6 := k6.trans k7 (fun b hb h => by subst h; omega)
      refine M.draw_i ?_
      have kd : Keep w7 w7.drew No := Keep.drew _ _
      replace hT7 := hT7.keep kd (fun _ _ _ h => h)
      replace hX7 := hX7.keep kd (fun h => h)
      replace hR7 := hR7.keep kd (fun _ _ _ h => h)
      replace k6 := k6.trans kd (fun _ _ h => h)
      generalize w7.drew = w8 at *
      (repeat (first | refine M.len_i ?_ | refine M.nilCheck_i ?_ | refine M.field_i ?_ | refine M.draw_i ?_ | refine M.cap_i ?_ | refine M.gd_tt ?_ | refine M.gd_ff ?_ | refine M.gd_ft ?_ | refine M.gd_tf ?_ | refine M.pick_t ?_ | refine M.pick_f ?_ | refine M.not_t ?_ | refine M.not_f ?_ | refine M.cond_t ?_ | refine M.cond_f ?_ | refine M.eqNilP_tn ?_ | refine M.eqNilP_ts ?_ | refine M.eqNilP_fn ?_ | refine M.eqNilP_fs ?_ | refine M.eqNilS_tn ?_ | refine M.eqNilS_ts ?_ | refine M.eqNilS_fn ?_ | refine M.eqNilS_fs ?_ | refine M.lss_t (by omega) ?_ | refine M.lss_f (by omega) ?_ | refine M.leq_t (by omega) ?_ | refine M.leq_f (by omega) ?_ | refine M.gtr_t (by omega) ?_ | refine M.gtr_f (by omega) ?_ | refine M.geq_t (by omega) ?_ | refine M.geq_f (by omega) ?_ | refine M.eql_t (by omega) ?_ | refine M.eql_f (by omega) ?_ | refine M.neq_t (by omega) ?_ | refine M.neq_f (by omega) ?_ | refine M.add_i (by omega) (by omega) ?_ | refine M.sub_i (by omega) (by omega) ?_ | refine M.load_i (by assumption) ?_ | refine M.loadB_i (by assumption) rfl ?_ | refine M.st_i (by assumption) ?_ | refine M.stB_i (by assumption) rfl ?_ | refine M.gs_ff ?_ | refine M.gs_tt ?_ | refine M.gs_ft ?_ | refine M.gs_tf ?_ | refine M.stAll_i (by assumption) rfl ?_))
      refine M.call_i (levels_ret hT7) ?_; rintro _ w9 ⟨rfl, k9⟩
      replace hT7 := hT7.keep k9 (fun _ _ _ h => h)
      replace hX7 := hX7.keep k9 (fun h => h)
      replace hR7 := hR7.keep k9 (fun _ _ _ h => h)
      replace k6 := k6.trans k9 (fun _ _ h => h)
      have hr9 := hr0.keep k6 (fun _ _ _ h => h)
      (repeat (first | refine M.len_i ?_ | refine M.nilCheck_i ?_ | refine M.field_i ?_ | refine M.draw_i ?_ | refine M.cap_i ?_ | refine M.gd_tt ?_ | refine M.gd_ff ?_ | refine M.gd_ft ?_ | refine M.gd_tf ?_ | refine M.pick_t ?_ | refine M.pick_f ?_ | refine M.not_t ?_ | refine M.not_f ?_ | refine M.cond_t ?_ | refine M.cond_f ?_ | refine M.eqNilP_tn ?_ | refine M.eqNilP_ts ?_ | refine M.eqNilP_fn ?_ | refine M.eqNilP_fs ?_ | refine M.eqNilS_tn ?_ | refine M.eqNilS_ts ?_ | refine M.eqNilS_fn ?_ | refine M.eqNilS_fs ?_ | refine M.lss_t (by omega) ?_ | refine M.lss_f (by omega) ?_ | refine M.leq_t (by omega) ?_ | refine M.leq_f (by omega) ?_ | refine M.gtr_t (by omega) ?_ | refine M.gtr_f (by omega) ?_ | refine M.geq_t (by omega) ?_ | refine M.geq_f (by omega) ?_ | refine M.eql_t (by omega) ?_ | refine M.eql_f (by omega) ?_ | refine M.neq_t (by omega) ?_ | refine M.neq_f (by omega) ?_ | refine M.add_i (by omega) (by omega) ?_ | refine M.sub_i (by omega) (by omega) ?_ | refine M.load_i (by assumption) ?_ | refine M.loadB_i (by assumption) rfl ?_ | refine M.st_i (by assumption) ?_ | refine M.stB_i (by assumption) rfl ?_ | refine M.gs_ff ?_ | refine M.gs_tt ?_ | refine M.gs_ft ?_ | refine M.gs_tf ?_ | refine M.stAll_i (by assumption) rfl ?_))
      refine M.idxRowN_i hr9 (en_len _) (by omega) (by omega) (by omega) (fun b o hA hc => ?_)
      have c1 := hc 1 (by omega)
      simp only [Int.toNat_natCast] at c1
      rw [g1] at c1
      (repeat (first | refine M.len_i ?_ | refine M.nilCheck_i ?_ | refine M.field_i ?_ | refine M.draw_i ?_ | refine M.cap_i ?_ | refine M.gd_tt ?_ | refine M.gd_ff ?_ | refine M.gd_ft ?_ | refine M.gd_tf ?_ | refine M.pick_t ?_ | refine M.pick_f ?_ | refine M.not_t ?_ | refine M.not_f ?_ | refine M.cond_t ?_ | refine M.cond_f ?_ | refine M.eqNilP_tn ?_ | refine M.eqNilP_ts ?_ | refine M.eqNilP_fn ?_ | refine M.eqNilP_fs ?_ | refine M.eqNilS_tn ?_ | refine M.eqNilS_ts ?_ | refine M.eqNilS_fn ?_ | refine M.eqNilS_fs ?_ | refine M.lss_t (by omega) ?_ | refine M.lss_f (by omega) ?_ | refine M.leq_t (by omega) ?_ | refine M.leq_f (by omega) ?_ | refine M.gtr_t (by omega) ?_ | refine M.gtr_f (by omega) ?_ | refine M.geq_t (by omega) ?_ | refine M.geq_f (by omega) ?_ | refine M.eql_t (by omega) ?_ | refine M.eql_f (by omega) ?_ | refine M.neq_t (by omega) ?_ | refine M.neq_f (by omega) ?_ | refine M.add_i (by omega) (by omega) ?_ | refine M.sub_i (by omega) (by omega) ?_ | refine M.load_i (by assumption) ?_ | refine M.loadB_i (by assumption) rfl ?_ | refine M.st_i (by assumption) ?_ | refine M.stB_i (by assumption) rfl ?_ | refine M.gs_ff ?_ | refine M.gs_tt ?_ | refine M.gs_ft ?_ | refine M.gs_tf ?_ | refine M.stAll_i (by assumption) rfl ?_))
      refine M.loadAll_i hX7 rfl ?_
      (repeat (first | refine M.len_i ?_ | refine M.nilCheck_i ?_ | refine M.field_i ?_ | refine M.draw_i ?_ | refine M.cap_i ?_ | refine M.gd_tt ?_ | refine M.gd_ff ?_ | refine M.gd_ft ?_ | refine M.gd_tf ?_ | refine M.pick_t ?_ | refine M.pick_f ?_ | refine M.not_t ?_ | refine M.not_f ?_ | refine M.cond_t ?_ | refine M.cond_f ?_ | refine M.eqNilP_tn ?_ | refine M.eqNilP_ts ?_ | refine M.eqNilP_fn ?_ | refine M.eqNilP_fs ?_ | refine M.eqNilS_tn ?_ | refine M.eqNilS_ts ?_ | refine M.eqNilS_fn ?_ | refine M.eqNilS_fs ?_ | refine M.lss_t (by omega) ?_ | refine M.lss_f (by omega) ?_ | refine M.leq_t (by omega) ?_ | refine M.leq_f (by omega) ?_ | refine M.gtr_t (by omega) ?_ | refine M.gtr_f (by omega) ?_ | refine M.geq_t (by omega) ?_ | refine M.geq_f (by omega) ?_ | refine M.eql_t (by omega) ?_ | refine M.eql_f (by omega) ?_ | refine M.neq_t (by omega) ?_ | refine M.neq_f (by omega) ?_ | refine M.add_i (by omega) (by omega) ?_ | refine M.sub_i (by omega) (by omega) ?_ | refine M.load_i (by assumption) ?_ | refine M.loadB_i (by assumption) rfl ?_ | refine M.st_i (by assumption) ?_ | refine M.stB_i (by assumption) rfl ?_ | refine M.gs_ff ?_ | refine M.gs_tt ?_ | refine M.gs_ft ?_ | refine M.gs_tf ?_ | refine M.stAll_i (by assumption) rfl ?_))
      refine M.idxRowN_i hr9 (en_len _) (by omega) (by omega) (by omega) (fun b2 o2 hA2 hc2 => ?_)
      have c1b := hc2 1 (by omega)
      simp only [Int.toNat_natCast] at c1b
      rw [g1] at c1b
      (repeat (first | refine M.len_i ?_ | refine M.nilCheck_i ?_ | refine M.field_i ?_ | refine M.draw_i ?_ | refine M.cap_i ?_ | refine M.gd_tt ?_ | refine M.gd_ff ?_ | refine M.gd_ft ?_ | refine M.gd_tf ?_ | refine M.pick_t ?_ | refine M.pick_f ?_ | refine M.not_t ?_ | refine M.not_f ?_ | refine M.cond_t ?_ | refine M.cond_f ?_ | refine M.eqNilP_tn ?_ | refine M.eqNilP_ts ?_ | refine M.eqNilP_fn ?_ | refine M.eqNilP_fs ?_ | refine M.eqNilS_tn ?_ | refine M.eqNilS_ts ?_ | refine M.eqNilS_fn ?_ | refine M.eqNilS_fs ?_ | refine M.lss_t (by omega) ?_ | refine M.lss_f (by omega) ?_ | refine M.leq_t (by omega) ?_ | refine M.leq_f (by omega) ?_ | refine M.gtr_t (by omega) ?_ | refine M.gtr_f (by omega) ?_ | refine M.geq_t (by omega) ?_ | refine M.geq_f (by omega) ?_ | refine M.eql_t (by omega) ?_ | refine M.eql_f (by omega) ?_ | refine M.neq_t (by omega) ?_ | refine M.neq_f (by omega) ?_ | refine M.add_i (by omega) (by omega) ?_ | refine M.sub_i (by omega) (by omega) ?_ | refine M.load_i (by assumption) ?_ | refine M.loadB_i (by assumption) rfl ?_ | refine M.st_i (by assumption) ?_ | refine M.stB_i (by assumption) rfl ?_ | refine M.gs_ff ?_ | refine M.gs_tt ?_ | refine M.gs_ft ?_ | refine M.gs_tf ?_ | refine M.stAll_i (by assumption) rfl ?_))
      refine M.call_i (value_ret hT7 e.lev) ?_; rintro _ w10 ⟨rfl, k10⟩
      replace hT7 := hT7.keep k10 (fun _ _ _ h => h)
      replace hX7 := hX7.keep k10 (fun h => h)
      replace hR7 := hR7.keep k10 (fun _ _ _ h => h)
      replace k6 := k6.trans k10 (fun _ _ h => h)
      replace c1 := k10.cell (fun h => h) c1
      replace c1b := k10.cell (fun h => h) c1b
      (repeat (first | refine M.len_i ?_ | refine M.nilCheck_i ?_ | refine M.field_i ?_ | refine M.draw_i ?_ | refine M.cap_i ?_ | refine M.gd_tt ?_ | refine M.gd_ff ?_ | refine M.gd_ft ?_ | refine M.gd_tf ?_ | refine M.pick_t ?_ | refine M.pick_f ?_ | refine M.not_t ?_ | refine M.not_f ?_ | refine M.cond_t ?_ | refine M.cond_f ?_ | refine M.eqNilP_tn ?_ | refine M.eqNilP_ts ?_ | refine M.eqNilP_fn ?_ | refine M.eqNilP_fs ?_ | refine M.eqNilS_tn ?_ | refine M.eqNilS_ts ?_ | refine M.eqNilS_fn ?_ | refine M.eqNilS_fs ?_ | refine M.lss_t (by omega) ?_ | refine M.lss_f (by omega) ?_ | refine M.leq_t (by omega) ?_ | refine M.leq_f (by omega) ?_ | refine M.gtr_t (by omega) ?_ | refine M.gtr_f (by omega) ?_ | refine M.geq_t (by omega) ?_ | refine M.geq_f (by omega) ?_ | refine M.eql_t (by omega) ?_ | refine M.eql_f (by omega) ?_ | refine M.neq_t (by omega) ?_ | refine M.neq_f (by omega) ?_ | refine M.add_i (by omega) (by omega) ?_ | refine M.sub_i (by omega) (by omega) ?_ | refine M.load_i (by assumption) ?_ | refine M.loadB_i (by assumption) rfl ?_ | refine M.st_i (by assumption) ?_ | refine M.stB_i (by assumption) rfl ?_ | refine M.gs_ff ?_ | refine M.gs_tt ?_ | refine M.gs_ft ?_ | refine M.gs_tf ?_ | refine M.stAll_i (by assumption) rfl ?_))
      refine M.call_i (rvalue_ret (t := t'.toR) ⟨_, _, rfl, hc', hR7⟩ fit.few fit.lits hIe) ?_; rintro _ w11 ⟨rfl, k11⟩
      replace hT7 := hT7.keep k11 (fun _ _ _ h => h)
      replace hX7 := hX7.keep k11 (fun h => h)
      replace hR7 := hR7.keep k11 (fun _ _ _ h => h)
      replace k6 := k6.trans k11 (fun _ _ h => h)
      rw [toR_val ok]
      (repeat (first | refine M.len_i ?_ | refine M.nilCheck_i ?_ | refine M.field_i ?_ | refine M.draw_i ?_ | refine M.cap_i ?_ | refine M.gd_tt ?_ | refine M.gd_ff ?_ | refine M.gd_ft ?_ | refine M.gd_tf ?_ | refine M.pick_t ?_ | refine M.pick_f ?_ | refine M.not_t ?_ | refine M.not_f ?_ | refine M.cond_t ?_ | refine M.cond_f ?_ | refine M.eqNilP_tn ?_ | refine M.eqNilP_ts ?_ | refine M.eqNilP_fn ?_ | refine M.eqNilP_fs ?_ | refine M.eqNilS_tn ?_ | refine M.eqNilS_ts ?_ | refine M.eqNilS_fn ?_ | refine M.eqNilS_fs ?_ | refine M.lss_t (by omega) ?_ | refine M.lss_f (by omega) ?_ | refine M.leq_t (by omega) ?_ | refine M.leq_f (by omega) ?_ | refine M.gtr_t (by omega) ?_ | refine M.gtr_f (by omega) ?_ | refine M.geq_t (by omega) ?_ | refine M.geq_f (by omega) ?_ | refine M.eql_t (by omega) ?_ | refine M.eql_f (by omega) ?_ | refine M.neq_t (by omega) ?_ | refine M.neq_f (by omega) ?_ | refine M.add_i (by omega) (by omega) ?_ | refine M.sub_i (by omega) (by omega) ?_ | refine M.load_i (by assumption) ?_ | refine M.loadB_i (by assumption) rfl ?_ | refine M.st_i (by assumption) ?_ | refine M.stB_i (by assumption) rfl ?_ | refine M.gs_ff ?_ | refine M.gs_tt ?_ | refine M.gs_ft ?_ | refine M.gs_tf ?_ | refine M.stAll_i (by assumption) rfl ?_))
      refine M.loadAll_i hX7 rfl ?_
      (repeat (first | refine M.len_i ?_ | refine M.nilCheck_i ?_ | refine M.field_i ?_ | refine M.draw_i ?_ | refine M.cap_i ?_ | refine M.gd_tt ?_ | refine M.gd_ff ?_ | refine M.gd_ft ?_ | refine M.gd_tf ?_ | refine M.pick_t ?_ | refine M.pick_f ?_ | refine M.not_t ?_ | refine M.not_f ?_ | refine M.cond_t ?_ | refine M.cond_f ?_ | refine M.eqNilP_tn ?_ | refine M.eqNilP_ts ?_ | refine M.eqNilP_fn ?_ | refine M.eqNilP_fs ?_ | refine M.eqNilS_tn ?_ | refine M.eqNilS_ts ?_ | refine M.eqNilS_fn ?_ | refine M.eqNilS_fs ?_ | refine M.lss_t (by omega) ?_ | refine M.lss_f (by omega) ?_ | refine M.leq_t (by omega) ?_ | refine M.leq_f (by omega) ?_ | refine M.gtr_t (by omega) ?_ | refine M.gtr_f (by omega) ?_ | refine M.geq_t (by omega) ?_ | refine M.geq_f (by omega) ?_ | refine M.eql_t (by omega) ?_ | refine M.eql_f (by omega) ?_ | refine M.neq_t (by omega) ?_ | refine M.neq_f (by omega) ?_ | refine M.add_i (by omega) (by omega) ?_ | refine M.sub_i (by omega) (by omega) ?_ | refine M.load_i (by assumption) ?_ | refine M.loadB_i (by assumption) rfl ?_ | refine M.st_i (by assumption) ?_ | refine M.stB_i (by assumption) rfl ?_ | refine M.gs_ff ?_ | refine M.gs_tt ?_ | refine M.gs_ft ?_ | refine M.gs_tf ?_ | refine M.stAll_i (by assumption) rfl ?_))
      refine M.call_i (value_ret hT7 at0) ?_; rintro _ w12 ⟨rfl, k12⟩
      replace hT7 := hT7.keep k12 (fun _ _ _ h => h)
      replace hX7 := hX7.keep k12 (fun h => h)
      replace hR7 := hR7.keep k12 (fun _ _ _ h => h)
      replace k6 := k6.trans k12 (fun _ _ h => h)
      (repeat (first | refine M.len_i ?_ | refine M.nilCheck_i ?_ | refine M.field_i ?_ | refine M.draw_i ?_ | refine M.cap_i ?_ | refine M.gd_tt ?_ | refine M.gd_ff ?_ | refine M.gd_ft ?_ | refine M.gd_tf ?_ | refine M.pick_t ?_ | refine M.pick_f ?_ | refine M.not_t ?_ | refine M.not_f ?_ | refine M.cond_t ?_ | refine M.cond_f ?_ | refine M.eqNilP_tn ?_ | refine M.eqNilP_ts ?_ | refine M.eqNilP_fn ?_ | refine M.eqNilP_fs ?_ | refine M.eqNilS_tn ?_ | refine M.eqNilS_ts ?_ | refine M.eqNilS_fn ?_ | refine M.eqNilS_fs ?_ | refine M.lss_t (by omega) ?_ | refine M.lss_f (by omega) ?_ | refine M.leq_t (by omega) ?_ | refine M.leq_f (by omega) ?_ | refine M.gtr_t (by omega) ?_ | refine M.gtr_f (by omega) ?_ | refine M.geq_t (by omega) ?_ | refine M.geq_f (by omega) ?_ | refine M.eql_t (by omega) ?_ | refine M.eql_f (by omega) ?_ | refine M.neq_t (by omega) ?_ | refine M.neq_f (by omega) ?_ | refine M.add_i (by omega) (by omega) ?_ | refine M.sub_i (by omega) (by omega) ?_ | refine M.load_i (by assumption) ?_ | refine M.loadB_i (by assumption) rfl ?_ | refine M.st_i (by assumption) ?_ | refine M.stB_i (by assumption) rfl ?_ | refine M.gs_ff ?_ | refine M.gs_tt ?_ | refine M.gs_ft ?_ | refine M.gs_tf ?_ | refine M.stAll_i (by assumption) rfl ?_))
      refine M.call_i (rvalue_ret (t := t'.toR) ⟨_, _, rfl, hc', hR7⟩ fit.few fit.lits ha) ?_; rintro _ w13 ⟨rfl, k13⟩
      replace hT7 := hT7.keep k13 (fun _ _ _ h => h)
      replace hX7 := hX7.keep k13 (fun h => h)
      replace hR7 := hR7.keep k13 (fun _ _ _ h => h)
      replace k6 := k6.trans k13 (fun _ _ h => h)
      rw [toR_val ok]
      (repeat (first | refine M.len_i ?_ | refine M.nilCheck_i ?_ | refine M.field_i ?_ | refine M.draw_i ?_ | refine M.cap_i ?_ | refine M.gd_tt ?_ | refine M.gd_ff ?_ | refine M.gd_ft ?_ | refine M.gd_tf ?_ | refine M.pick_t ?_ | refine M.pick_f ?_ | refine M.not_t ?_ | refine M.not_f ?_ | refine M.cond_t ?_ | refine M.cond_f ?_ | refine M.eqNilP_tn ?_ | refine M.eqNilP_ts ?_ | refine M.eqNilP_fn ?_ | refine M.eqNilP_fs ?_ | refine M.eqNilS_tn ?_ | refine M.eqNilS_ts ?_ | refine M.eqNilS_fn ?_ | refine M.eqNilS_fs ?_ | refine M.lss_t (by omega) ?_ | refine M.lss_f (by omega) ?_ | refine M.leq_t (by omega) ?_ | refine M.leq_f (by omega) ?_ | refine M.gtr_t (by omega) ?_ | refine M.gtr_f (by omega) ?_ | refine M.geq_t (by omega) ?_ | refine M.geq_f (by omega) ?_ | refine M.eql_t (by omega) ?_ | refine M.eql_f (by omega) ?_ | refine M.neq_t (by omega) ?_ | refine M.neq_f (by omega) ?_ | refine M.add_i (by omega) (by omega) ?_ | refine M.sub_i (by omega) (by omega) ?_ | refine M.load_i (by assumption) ?_ | refine M.loadB_i (by assumption) rfl ?_ | refine M.st_i (by assumption) ?_ | refine M.stB_i (by assumption) rfl ?_ | refine M.gs_ff ?_ | refine M.gs_tt ?_ | refine M.gs_ft ?_ | refine M.gs_tf ?_ | refine M.stAll_i (by assumption) rfl ?_))
      refine M.loadAll_i hX7 rfl ?_
      (repeat (first | refine M.len_i ?_ | refine M.nilCheck_i ?_ | refine M.field_i ?_ | refine M.draw_i ?_ | refine M.cap_i ?_ | refine M.gd_tt ?_ | refine M.gd_ff ?_ | refine M.gd_ft ?_ | refine M.gd_tf ?_ | refine M.pick_t ?_ | refine M.pick_f ?_ | refine M.not_t ?_ | refine M.not_f ?_ | refine M.cond_t ?_ | refine M.cond_f ?_ | refine M.eqNilP_tn ?_ | refine M.eqNilP_ts ?_ | refine M.eqNilP_fn ?_ | refine M.eqNilP_fs ?_ | refine M.eqNilS_tn ?_ | refine M.eqNilS_ts ?_ | refine M.eqNilS_fn ?_ | refine M.eqNilS_fs ?_ | refine M.lss_t (by omega) ?_ | refine M.lss_f (by omega) ?_ | refine M.leq_t (by omega) ?_ | refine M.leq_f (by omega) ?_ | refine M.gtr_t (by omega) ?_ | refine M.gtr_f (by omega) ?_ | refine M.geq_t (by omega) ?_ | refine M.geq_f (by omega) ?_ | refine M.eql_t (by omega) ?_ | refine M.eql_f (by omega) ?_ | refine M.neq_t (by omega) ?_ | refine M.neq_f (by omega) ?_ | refine M.add_i (by omega) (by omega) ?_ | refine M.sub_i (by omega) (by omega) ?_ | refine M.load_i (by assumption) ?_ | refine M.loadB_i (by assumption) rfl ?_ | refine M.st_i (by assumption) ?_ | refine M.stB_i (by assumption) rfl ?_ | refine M.gs_ff ?_ | refine M.gs_tt ?_ | refine M.gs_ft ?_ | refine M.gs_tf ?_ | refine M.stAll_i (by assumption) rfl ?_))
      refine M.call_i (level_ret hT7 at0) ?_; rintro _ w14 ⟨rfl, k14⟩
      replace hT7 := hT7.keep k14 (fun _ _ _ h => h)
      replace hX7 := hX7.keep k14 (fun h => h)
      replace hR7 := hR7.keep k14 (fun _ _ _ h => h)
      replace k6 := k6.trans k14 (fun _ _ h => h)
      (repeat (first | refine M.len_i ?_ | refine M.nilCheck_i ?_ | refine M.field_i ?_ | refine M.draw_i ?_ | refine M.cap_i ?_ | refine M.gd_tt ?_ | refine M.gd_ff ?_ | refine M.gd_ft ?_ | refine M.gd_tf ?_ | refine M.pick_t ?_ | refine M.pick_f ?_ | refine M.not_t ?_ | refine M.not_f ?_ | refine M.cond_t ?_ | refine M.cond_f ?_ | refine M.eqNilP_tn ?_ | refine M.eqNilP_ts ?_ | refine M.eqNilP_fn ?_ | refine M.eqNilP_fs ?_ | refine M.eqNilS_tn ?_ | refine M.eqNilS_ts ?_ | refine M.eqNilS_fn ?_ | refine M.eqNilS_fs ?_ | refine M.lss_t (by omega) ?_ | refine M.lss_f (by omega) ?_ | refine M.leq_t (by omega) ?_ | refine M.leq_f (by omega) ?_ | refine M.gtr_t (by omega) ?_ | refine M.gtr_f (by omega) ?_ | refine M.geq_t (by omega) ?_ | refine M.geq_f (by omega) ?_ | refine M.eql_t (by omega) ?_ | refine M.eql_f (by omega) ?_ | refine M.neq_t (by omega) ?_ | refine M.neq_f (by omega) ?_ | refine M.add_i (by omega) (by omega) ?_ | refine M.sub_i (by omega) (by omega) ?_ | refine M.load_i (by assumption) ?_ | refine M.loadB_i (by assumption) rfl ?_ | refine M.st_i (by assumption) ?_ | refine M.stB_i (by assumption) rfl ?_ | refine M.gs_ff ?_ | refine M.gs_tt ?_ | refine M.gs_ft ?_ | refine M.gs_tf ?_ | refine M.stAll_i (by assumption) rfl ?_))
      refine M.call_i (rlevel_ret (t := t'.toR) ⟨_, _, rfl, hc', hR7⟩ fit.few fit.lits at0) ?_; rintro _ w15 ⟨rfl, k15⟩
      replace hT7 := hT7.keep k15 (fun _ _ _ h => h)
      replace hX7 := hX7.keep k15 (fun h => h)
      replace hR7 := hR7.keep k15 (fun _ _ _ h => h)
      replace k6 := k6.trans k15 (fun _ _ h => h)
      rw [toR_lev ok]
      (repeat (first | refine M.len_i ?_ | refine M.nilCheck_i ?_ | refine M.field_i ?_ | refine M.draw_i ?_ | refine M.cap_i ?_ | refine M.gd_tt ?_ | refine M.gd_ff ?_ | refine M.gd_ft ?_ | refine M.gd_tf ?_ | refine M.pick_t ?_ | refine M.pick_f ?_ | refine M.not_t ?_ | refine M.not_f ?_ | refine M.cond_t ?_ | refine M.cond_f ?_ | refine M.eqNilP_tn ?_ | refine M.eqNilP_ts ?_ | refine M.eqNilP_fn ?_ | refine M.eqNilP_fs ?_ | refine M.eqNilS_tn ?_ | refine M.eqNilS_ts ?_ | refine M.eqNilS_fn ?_ | refine M.eqNilS_fs ?_ | refine M.lss_t (by omega) ?_ | refine M.lss_f (by omega) ?_ | refine M.leq_t (by omega) ?_ | refine M.leq_f (by omega) ?_ | refine M.gtr_t (by omega) ?_ | refine M.gtr_f (by omega) ?_ | refine M.geq_t (by omega) ?_ | refine M.geq_f (by omega) ?_ | refine M.eql_t (by omega) ?_ | refine M.eql_f (by omega) ?_ | refine M.neq_t (by omega) ?_ | refine M.neq_f (by omega) ?_ | refine M.add_i (by omega) (by omega) ?_ | refine M.sub_i (by omega) (by omega) ?_ | refine M.load_i (by assumption) ?_ | refine M.loadB_i (by assumption) rfl ?_ | refine M.st_i (by assumption) ?_ | refine M.stB_i (by assumption) rfl ?_ | refine M.gs_ff ?_ | refine M.gs_tt ?_ | refine M.gs_ft ?_ | refine M.gs_tf ?_ | refine M.stAll_i (by assumption) rfl ?_))
      refine M.loadAll_i hX7 rfl ?_
      (repeat (first | refine M.len_i ?_ | refine M.nilCheck_i ?_ | refine M.field_i ?_ | refine M.draw_i ?_ | refine M.cap_i ?_ | refine M.gd_tt ?_ | refine M.gd_ff ?_ | refine M.gd_ft ?_ | refine M.gd_tf ?_ | refine M.pick_t ?_ | refine M.pick_f ?_ | refine M.not_t ?_ | refine M.not_f ?_ | refine M.cond_t ?_ | refine M.cond_f ?_ | refine M.eqNilP_tn ?_ | refine M.eqNilP_ts ?_ | refine M.eqNilP_fn ?_ | refine M.eqNilP_fs ?_ | refine M.eqNilS_tn ?_ | refine M.eqNilS_ts ?_ | refine M.eqNilS_fn ?_ | refine M.eqNilS_fs ?_ | refine M.lss_t (by omega) ?_ | refine M.lss_f (by omega) ?_ | refine M.leq_t (by omega) ?_ | refine M.leq_f (by omega) ?_ | refine M.gtr_t (by omega) ?_ | refine M.gtr_f (by omega) ?_ | refine M.geq_t (by omega) ?_ | refine M.geq_f (by omega) ?_ | refine M.eql_t (by omega) ?_ | refine M.eql_f (by omega) ?_ | refine M.neq_t (by omega) ?_ | refine M.neq_f (by omega) ?_ | refine M.add_i (by omega) (by omega) ?_ | refine M.sub_i (by omega) (by omega) ?_ | refine M.load_i (by assumption) ?_ | refine M.loadB_i (by assumption) rfl ?_ | refine M.st_i (by assumption) ?_ | refine M.stB_i (by assumption) rfl ?_ | refine M.gs_ff ?_ | refine M.gs_tt ?_ | refine M.gs_ft ?_ | refine M.gs_tf ?_ | refine M.stAll_i (by assumption) rfl ?_))
      refine M.call_i (reason_ret hT7 at0) ?_; rintro _ w16 ⟨rfl, k16⟩
      replace hT7 := hT7.keep k16 (fun _ _ _ h => h)
      replace hX7 := hX7.keep k16 (fun h => h)
      replace hR7 := hR7.keep k16 (fun _ _ _ h => h)
      replace k6 := k6.trans k16 (fun _ _ h => h)
      (repeat (first | refine M.len_i ?_ | refine M.nilCheck_i ?_ | refine M.field_i ?_ | refine M.draw_i ?_ | refine M.cap_i ?_ | refine M.gd_tt ?_ | refine M.gd_ff ?_ | refine M.gd_ft ?_ | refine M.gd_tf ?_ | refine M.pick_t ?_ | refine M.pick_f ?_ | refine M.not_t ?_ | refine M.not_f ?_ | refine M.cond_t ?_ | refine M.cond_f ?_ | refine M.eqNilP_tn ?_ | refine M.eqNilP_ts ?_ | refine M.eqNilP_fn ?_ | refine M.eqNilP_fs ?_ | refine M.eqNilS_tn ?_ | refine M.eqNilS_ts ?_ | refine M.eqNilS_fn ?_ | refine M.eqNilS_fs ?_ | refine M.lss_t (by omega) ?_ | refine M.lss_f (by omega) ?_ | refine M.leq_t (by omega) ?_ | refine M.leq_f (by omega) ?_ | refine M.gtr_t (by omega) ?_ | refine M.gtr_f (by omega) ?_ | refine M.geq_t (by omega) ?_ | refine M.geq_f (by omega) ?_ | refine M.eql_t (by omega) ?_ | refine M.eql_f (by omega) ?_ | refine M.neq_t (by omega) ?_ | refine M.neq_f (by omega) ?_ | refine M.add_i (by omega) (by omega) ?_ | refine M.sub_i (by omega) (by omega) ?_ | refine M.load_i (by assumption) ?_ | refine M.loadB_i (by assumption) rfl ?_ | refine M.st_i (by assumption) ?_ | refine M.stB_i (by assumption) rfl ?_ | refine M.gs_ff ?_ | refine M.gs_tt ?_ | refine M.gs_ft ?_ | refine M.gs_tf ?_ | refine M.stAll_i (by assumption) rfl ?_))
      refine M.call_i (rreason_ret (t := t'.toR) ⟨_, _, rfl, hc', hR7⟩ fit.few fit.lits at0) ?_; rintro _ w17 ⟨rfl, k17⟩
      replace hT7 := hT7.keep k17 (fun _ _ _ h => h)
      replace hX7 := hX7.keep k17 (fun h => h)
      replace hR7 := hR7.keep k17 (fun _ _ _ h => h)
      replace k6 := k6.trans k17 (fun _ _ h => h)
      rw [toR_rea ok]
      (repeat (first | refine M.len_i ?_ | refine M.nilCheck_i ?_ | refine M.field_i ?_ | refine M.draw_i ?_ | refine M.cap_i ?_ | refine M.gd_tt ?_ | refine M.gd_ff ?_ | refine M.gd_ft ?_ | refine M.gd_tf ?_ | refine M.pick_t ?_ | refine M.pick_f ?_ | refine M.not_t ?_ | refine M.not_f ?_ | refine M.cond_t ?_ | refine M.cond_f ?_ | refine M.eqNilP_tn ?_ | refine M.eqNilP_ts ?_ | refine M.eqNilP_fn ?_ | refine M.eqNilP_fs ?_ | refine M.eqNilS_tn ?_ | refine M.eqNilS_ts ?_ | refine M.eqNilS_fn ?_ | refine M.eqNilS_fs ?_ | refine M.lss_t (by omega) ?_ | refine M.lss_f (by omega) ?_ | refine M.leq_t (by omega) ?_ | refine M.leq_f (by omega) ?_ | refine M.gtr_t (by omega) ?_ | refine M.gtr_f (by omega) ?_ | refine M.geq_t (by omega) ?_ | refine M.geq_f (by omega) ?_ | refine M.eql_t (by omega) ?_ | refine M.eql_f (by omega) ?_ | refine M.neq_t (by omega) ?_ | refine M.neq_f (by omega) ?_ | refine M.add_i (by omega) (by omega) ?_ | refine M.sub_i (by omega) (by omega) ?_ | refine M.load_i (by assumption) ?_ | refine M.loadB_i (by assumption) rfl ?_ | refine M.st_i (by assumption) ?_ | refine M.stB_i (by assumption) rfl ?_ | refine M.gs_ff ?_ | refine M.gs_tt ?_ | refine M.gs_ft ?_ | refine M.gs_tf ?_ | refine M.stAll_i (by assumption) rfl ?_))
      refine hK (t', lab', i + 1, A', c') _ _ (by show ds.length - (i + 1) < ds.length - i; omega) ⟨by simp, by show i + 1 ≤ ds.length; omega, hT7, hgd, hX7, hc', hR7, hlx', hlb', k6⟩
  · (repeat (first | refine M.len_i ?_ | refine M.nilCheck_i ?_ | refine M.field_i ?_ | refine M.draw_i ?_ | refine M.cap_i ?_ | refine M.gd_tt ?_ | refine M.gd_ff ?_ | refine M.gd_ft ?_ | refine M.gd_tf ?_ | refine M.pick_t ?_ | refine M.pick_f ?_ | refine M.not_t ?_ | refine M.not_f ?_ | refine M.cond_t ?_ | refine M.cond_f ?_ | refine M.eqNilP_tn ?_ | refine M.eqNilP_ts ?_ | refine M.eqNilP_fn ?_ | refine M.eqNilP_fs ?_ | refine M.eqNilS_tn ?_ | refine M.eqNilS_ts ?_ | refine M.eqNilS_fn ?_ | refine M.eqNilS_fs ?_ | refine M.lss_t (by omega) ?_ | refine M.lss_f (by omega) ?_ | refine M.leq_t (by omega) ?_ | refine M.leq_f (by omega) ?_ | refine M.gtr_t (by omega) ?_ | refine M.gtr_f (by omega) ?_ | refine M.geq_t (by omega) ?_ | refine M.geq_f (by omega) ?_ | refine M.eql_t (by omega) ?_ | refine M.eql_f (by omega) ?_ | refine M.neq_t (by omega) ?_ | refine M.neq_f (by omega) ?_ | refine M.add_i (by omega) (by omega) ?_ | refine M.sub_i (by omega) (by omega) ?_ | refine M.load_i (by assumption) ?_ | refine M.loadB_i (by assumption) rfl ?_ | refine M.st_i (by assumption) ?_ | refine M.stB_i (by assumption) rfl ?_ | refine M.gs_ff ?_ | refine M.gs_tt ?_ | refine M.gs_ft ?_ | refine M.gs_tf ?_ | refine M.stAll_i (by assumption) rfl ?_))
    have kd : Keep w5 w5.drew No := Keep.drew _ _
    replace hT := hT.keep kd (fun _ _ _ h => h)
    replace hX := hX.keep kd (fun h => h)
    replace hRx := hRx.keep kd (fun _ _ _ h => h)
    replace k5 := k5.trans kd (fun _ _ h => h)
    generalize w5.drew = w6 at *
    have fit := toR_fit ok
    refine M.loadAll_i hX rfl ?_
    refine M.call_i (lits_ret hT) ?_; rintro o7 w7 ⟨ho7, k7⟩
    replace hX := hX.keep k7 (fun h => h)
    replace hRx := hRx.keep k7 (fun _ _ _ h => h)
    replace k5 := k5.trans k7 (fun _ _ h => h)
    (repeat (first | refine M.len_i ?_ | refine M.nilCheck_i ?_ | refine M.field_i ?_ | refine M.draw_i ?_ | refine M.cap_i ?_ | refine M.gd_tt ?_ | refine M.gd_ff ?_ | refine M.gd_ft ?_ | refine M.gd_tf ?_ | refine M.pick_t ?_ | refine M.pick_f ?_ | refine M.not_t ?_ | refine M.not_f ?_ | refine M.cond_t ?_ | refine M.cond_f ?_ | refine M.eqNilP_tn ?_ | refine M.eqNilP_ts ?_ | refine M.eqNilP_fn ?_ | refine M.eqNilP_fs ?_ | refine M.eqNilS_tn ?_ | refine M.eqNilS_ts ?_ | refine M.eqNilS_fn ?_ | refine M.eqNilS_fs ?_ | refine M.lss_t (by omega) ?_ | refine M.lss_f (by omega) ?_ | refine M.leq_t (by omega) ?_ | refine M.leq_f (by omega) ?_ | refine M.gtr_t (by omega) ?_ | refine M.gtr_f (by omega) ?_ | refine M.geq_t (by omega) ?_ | refine M.geq_f (by omega) ?_ | refine M.eql_t (by omega) ?_ | refine M.eql_f (by omega) ?_ | refine M.neq_t (by omega) ?_ | refine M.neq_f (by omega) ?_ | refine M.add_i (by omega) (by omega) ?_ | refine M.sub_i (by omega) (by omega) ?_ | refine M.load_i (by assumption) ?_ | refine M.loadB_i (by assumption) rfl ?_ | refine M.st_i (by assumption) ?_ | refine M.stB_i (by assumption) rfl ?_ | refine M.gs_ff ?_ | refine M.gs_tt ?_ | refine M.gs_ft ?_ | refine M.gs_tf ?_ | refine M.stAll_i (by assumption) rfl ?_))
    refine M.call_i (rlits_ret (t := t.toR) ⟨_, _, rfl, hcx, hRx⟩ fit.few) ?_; rintro o8 w8 ⟨ho8, k8⟩
    replace ho7 := ho7.keep k8 (fun _ _ _ h => h)
    replace k5 := k5.trans k8 (fun _ _ h => h)
    refine M.call_i (same_retG ho7 ho8 (by have := fit.few; simp [Tr.toR, Few] at this ⊢; omega)) ?_; rintro _ w9 ⟨rfl, k9⟩
    rw [show decide (t.L.map (·.lit) = t.toR.L.map (·.lit)) = true from decide_eq_true rfl]
    (repeat (first | refine M.len_i ?_ | refine M.nilCheck_i ?_ | refine M.field_i ?_ | refine M.draw_i ?_ | refine M.cap_i ?_ | refine M.gd_tt ?_ | refine M.gd_ff ?_ | refine M.gd_ft ?_ | refine M.gd_tf ?_ | refine M.pick_t ?_ | refine M.pick_f ?_ | refine M.not_t ?_ | refine M.not_f ?_ | refine M.cond_t ?_ | refine M.cond_f ?_ | refine M.eqNilP_tn ?_ | refine M.eqNilP_ts ?_ | refine M.eqNilP_fn ?_ | refine M.eqNilP_fs ?_ | refine M.eqNilS_tn ?_ | refine M.eqNilS_ts ?_ | refine M.eqNilS_fn ?_ | refine M.eqNilS_fs ?_ | refine M.lss_t (by omega) ?_ | refine M.lss_f (by omega) ?_ | refine M.leq_t (by omega) ?_ | refine M.leq_f (by omega) ?_ | refine M.gtr_t (by omega) ?_ | refine M.gtr_f (by omega) ?_ | refine M.geq_t (by omega) ?_ | refine M.geq_f (by omega) ?_ | refine M.eql_t (by omega) ?_ | refine M.eql_f (by omega) ?_ | refine M.neq_t (by omega) ?_ | refine M.neq_f (by omega) ?_ | refine M.add_i (by omega) (by omega) ?_ | refine M.sub_i (by omega) (by omega) ?_ | refine M.load_i (by assumption) ?_ | refine M.loadB_i (by assumption) rfl ?_ | refine M.st_i (by assumption) ?_ | refine M.stB_i (by assumption) rfl ?_ | refine M.gs_ff ?_ | refine M.gs_tt ?_ | refine M.gs_ft ?_ | refine M.gs_tf ?_ | refine M.stAll_i (by assumption) rfl ?_))
    refine M.call_i (awake_ret w9) ?_; rintro _ w10 ⟨rfl, k10⟩
    (repeat (first | refine M.len_i ?_ | refine M.nilCheck_i ?_ | refine M.field_i ?_ | refine M.draw_i ?_ | refine M.cap_i ?_ | refine M.gd_tt ?_ | refine M.gd_ff ?_ | refine M.gd_ft ?_ | refine M.gd_tf ?_ | refine M.pick_t ?_ | refine M.pick_f ?_ | refine M.not_t ?_ | refine M.not_f ?_ | refine M.cond_t ?_ | refine M.cond_f ?_ | refine M.eqNilP_tn ?_ | refine M.eqNilP_ts ?_ | refine M.eqNilP_fn ?_ | refine M.eqNilP_fs ?_ | refine M.eqNilS_tn ?_ | refine M.eqNilS_ts ?_ | refine M.eqNilS_fn ?_ | refine M.eqNilS_fs ?_ | refine M.lss_t (by omega) ?_ | refine M.lss_f (by omega) ?_ | refine M.leq_t (by omega) ?_ | refine M.leq_f (by omega) ?_ | refine M.gtr_t (by omega) ?_ | refine M.gtr_f (by omega) ?_ | refine M.geq_t (by omega) ?_ | refine M.geq_f (by omega) ?_ | refine M.eql_t (by omega) ?_ | refine M.eql_f (by omega) ?_ | refine M.neq_t (by omega) ?_ | refine M.neq_f (by omega) ?_ | refine M.add_i (by omega) (by omega) ?_ | refine M.sub_i (by omega) (by omega) ?_ | refine M.load_i (by assumption) ?_ | refine M.loadB_i (by assumption) rfl ?_ | refine M.st_i (by assumption) ?_ | refine M.stB_i (by assumption) rfl ?_ | refine M.gs_ff ?_ | refine M.gs_tt ?_ | refine M.gs_ft ?_ | refine M.gs_tf ?_ | refine M.stAll_i (by assumption) rfl ?_))
    exact ⟨rfl, (k5.trans k9 (fun _ _ h => h)).trans k10 (fun _ _ h => h)⟩
end Go.Proofs.Ytkpgmbifaohjgaa
