import Derived.Test.YtfkbacoiocniaaaSimp43b
namespace Go.Proofs.Ytfkbacoiocniaaa
open Go.Mw Go.Shelf
set_option linter.unusedVariables false
set_option linter.unusedSimpArgs false
set_option maxRecDepth 100000
attribute [local irreducible] M.val M.unit M.next M.pick M.new M.nilCheck M.load1 M.loadA M.store M.fieldAddr M.indexSl M.indexArr M.slice M.makeSlice M.buildSlice M.len M.lenS M.cap M.append M.extract M.conv M.not M.neg M.bin M.shift M.eqB M.eqNil M.call M.callv M.gd M.share M.cond M.loop M.draw pureW readW Ret
/-! breakwater/simp.more: function 68 -/
def sh68 (x0 x1 x2 : Value) (R : Kt) (w : World) : Prop :=
  M.len x0 (fun t8 w =>
  M.len x1 (fun t10 w =>
  M.bin .lss t8 t10 (fun t11 w =>
  M.gd t11 false (fun k w => k x2 w) (fun t13 w =>
  M.gd t11 false (fun k w => k t13 w) (fun t14 w =>
  M.gd t14 true (fun k w => k x0 w) (fun t15 w =>
  M.gd t14 true (fun k w => M.len t15 k w) (fun t16 w =>
  M.gd t14 true (fun k w => k x1 w) (fun t17 w =>
  M.gd t14 true (fun k w => M.len t17 k w) (fun t18 w =>
  M.gd t14 true (fun k w => M.bin .eql t16 t18 k w) (fun t19 w =>
  M.gd t11 false (fun k w => M.pick t14 t19 (Value.bool false) k w) (fun t20 w =>
  M.pick t11 (Value.bool true) t20 (fun t21 w =>
  M.gd t21 true (fun k w => k x0 w) (fun t23 w =>
  M.gd t21 true (fun k w => k x1 w) (fun t24 w =>
  M.gd t21 true (fun k w => M.call Try.prog 21 #[t23, t24] k w) (fun t25 w =>
  M.pick t21 t25 (Value.bool false) (fun t26 w =>
  R t26 w) w) w) w) w) w) w) w) w) w) w) w) w) w) w) w) w
theorem ok68 (x0 x1 x2 : Value) (R : Kt) (w : World) (h : sh68 x0 x1 x2 R w) : Ret Try.prog 68 #[x0, x1, x2] w R :=
  ret_mk <| calls_of_comp mixed (c := Try.f68.body.getD .skip) (args := [x0, x1, x2]) (rs := [(ResultVar.tmp 6)]) (Ann.seq Ann.text (Ann.seq Ann.text Ann.leaf))
    Try.func68 (by kernel_rfl) (by kernel_rfl)
    (Eq.mp (by kernel_rfl) h)
/-! breakwater/simp.Subsume: function 32 -/
def sh32 (x0 : Value) (R : Kt) (w : World) : Prop :=
  M.len x0 (fun t16 w =>
  M.loop [(Value.slice none 0 0), (Value.int IntKind.i64 0)] (fun s1 K1 w => ∀ _ : List Value,
  M.bin .lss (s1.getD 1 undef) t16 (fun t18 w =>
  M.cond t18
  (M.share (fun K2 w =>
  M.indexSl 1 x0 (s1.getD 1 undef) (fun t19 w =>
  M.load1 t19 (fun t20 w =>
  M.call Try.prog 14 #[t20] (fun t23 w =>
  M.extract 0 t23 (fun t24 w =>
  M.extract 1 t23 (fun t25 w =>
  M.extract 2 t23 (fun t26 w =>
  M.bin .eql t26 (Value.int IntKind.i64 0) (fun t28 w =>
  M.gd t28 true (fun k w => k t25 w) (fun t30 w =>
  M.gd t28 true (fun k w => M.not t30 k w) (fun t31 w =>
  M.pick t28 t31 (Value.bool false) (fun t32 w =>
  M.cond t32
  (M.buildSlice 22 1 #[.slice none 0 0] 1 [(0, t24)] (fun t35 w =>
  M.append 22 1 24 #[.slice none 0 0] (s1.getD 0 undef) t35 (fun t36 w =>
  K2 [t36] w) w) w)
  (K2 [(s1.getD 0 undef)] w)) w) w) w) w) w) w) w) w) w) w) (fun s2 w => ∀ _ : List Value,
  M.bin .add (s1.getD 1 undef) (Value.int IntKind.i64 1) (fun t37 w =>
  K1 [(s2.getD 0 undef), t37] w) w) w)
  (M.len (s1.getD 0 undef) (fun t39 w =>
  M.loop [(Value.slice none 0 0), (Value.int IntKind.i64 0)] (fun s3 K3 w => ∀ _ : List Value,
  M.bin .lss (s3.getD 1 undef) t39 (fun t41 w =>
  M.cond t41
  (M.share (fun K4 w =>
  M.indexSl 1 (s1.getD 0 undef) (s3.getD 1 undef) (fun t43 w =>
  M.load1 t43 (fun t44 w =>
  M.len (s1.getD 0 undef) (fun t46 w =>
  M.share (fun K5 w =>
  M.loop [(Value.bool false), (Value.int IntKind.i64 0)] (fun s6 K6 w => ∀ _ : List Value,
  M.bin .lss (s6.getD 1 undef) t46 (fun t48 w =>
  M.cond t48
  (M.indexSl 1 (s1.getD 0 undef) (s6.getD 1 undef) (fun t50 w =>
  M.load1 t50 (fun t51 w =>
  M.bin .lss (s6.getD 1 undef) (s3.getD 1 undef) (fun t56 w =>
  M.call Try.prog 68 #[t51, t44, t56] (fun t57 w =>
  M.cond t57
  (K5 [(Value.bool true)] w)
  (M.bin .add (s6.getD 1 undef) (Value.int IntKind.i64 1) (fun t58 w =>
  K6 [(s6.getD 0 undef), t58] w) w)) w) w) w) w)
  (K5 [(s6.getD 0 undef)] w)) w) w) (fun s5 w => ∀ _ : List Value,
  M.not (s5.getD 0 undef) (fun t60 w =>
  M.cond t60
  (M.buildSlice 22 1 #[.slice none 0 0] 1 [(0, t44)] (fun t63 w =>
  M.append 22 1 24 #[.slice none 0 0] (s3.getD 0 undef) t63 (fun t64 w =>
  K4 [t64] w) w) w)
  (K4 [(s3.getD 0 undef)] w)) w) w) w) w) w) (fun s4 w => ∀ _ : List Value,
  M.bin .add (s3.getD 1 undef) (Value.int IntKind.i64 1) (fun t65 w =>
  K3 [(s4.getD 0 undef), t65] w) w) w)
  (R (s3.getD 0 undef) w)) w) w) w)) w) w) w
theorem ok32 (x0 : Value) (R : Kt) (w : World) (h : sh32 x0 R w) : Ret Try.prog 32 #[x0] w R :=
  ret_mk <| calls_of_comp mixed (c := Try.f32.body.getD .skip) (args := [x0]) (rs := [(ResultVar.tmp 2)]) (Ann.seq Ann.text (Ann.seq Ann.text (Ann.seq (Ann.seq Ann.text (Ann.block (Ann.loop [3, 17] [5, 6, 7, 8, 18, 19, 20, 21, 22, 23, 24, 25, 26, 27, 28, 29, 30, 31, 32, 33, 34, 35, 36, 37] (Ann.seq Ann.text (Ann.seq (Ann.cond Ann.leaf Ann.leaf) (Ann.seq (Ann.jblock [3] [5, 6, 7, 8, 19, 20, 21, 22, 23, 24, 25, 26, 27, 28, 29, 30, 31, 32, 33, 34, 35, 36] (Ann.seq Ann.text (Ann.seq Ann.text (Ann.seq Ann.text (Ann.cond Ann.text Ann.leaf))))) Ann.text)))))) (Ann.seq Ann.text (Ann.seq (Ann.seq Ann.text (Ann.block (Ann.loop [9, 40] [10, 11, 12, 13, 14, 41, 42, 43, 44, 45, 46, 47, 48, 49, 50, 51, 52, 53, 54, 55, 56, 57, 58, 59, 60, 61, 62, 63, 64, 65] (Ann.seq Ann.text (Ann.seq (Ann.cond Ann.leaf Ann.leaf) (Ann.seq (Ann.jblock [9] [10, 11, 12, 13, 14, 42, 43, 44, 45, 46, 47, 48, 49, 50, 51, 52, 53, 54, 55, 56, 57, 58, 59, 60, 61, 62, 63, 64] (Ann.seq Ann.text (Ann.seq Ann.text (Ann.seq (Ann.seq Ann.text (Ann.jblock [12] [13, 14, 47, 48, 49, 50, 51, 52, 53, 54, 55, 56, 57, 58] (Ann.loop [12, 47] [13, 14, 48, 49, 50, 51, 52, 53, 54, 55, 56, 57, 58] (Ann.seq Ann.text (Ann.seq (Ann.cond Ann.leaf Ann.leaf) (Ann.seq (Ann.block (Ann.seq Ann.text (Ann.seq Ann.text (Ann.cond (Ann.seq Ann.text Ann.leaf) Ann.leaf)))) Ann.text)))))) (Ann.seq Ann.text (Ann.cond Ann.text Ann.leaf)))))) Ann.text)))))) (Ann.seq Ann.text Ann.leaf))))))
    Try.func32 (by kernel_rfl) (by kernel_rfl)
    (Eq.mp (by kernel_rfl) h)
/-! breakwater/breakwaterref43.Subsume: function 33 -/
def sh33 (x0 : Value) (R : Kt) (w : World) : Prop :=
  M.loop [(Value.slice none 0 0), (Value.int IntKind.i64 0)] (fun s1 K1 w => ∀ _ : List Value,
  M.len x0 (fun t15 w =>
  M.bin .lss (s1.getD 1 undef) t15 (fun t16 w =>
  M.cond t16
  (M.share (fun K2 w =>
  M.indexSl 1 x0 (s1.getD 1 undef) (fun t22 w =>
  M.load1 t22 (fun t23 w =>
  M.call Try.prog 15 #[t23] (fun t24 w =>
  M.extract 0 t24 (fun t25 w =>
  M.extract 1 t24 (fun t26 w =>
  M.extract 2 t24 (fun t27 w =>
  M.bin .eql t27 (Value.int IntKind.i64 0) (fun t29 w =>
  M.gd t29 true (fun k w => k t26 w) (fun t31 w =>
  M.gd t29 true (fun k w => M.not t31 k w) (fun t32 w =>
  M.pick t29 t32 (Value.bool false) (fun t33 w =>
  M.cond t33
  (M.buildSlice 22 1 #[.slice none 0 0] 1 [(0, t25)] (fun t36 w =>
  M.append 22 1 24 #[.slice none 0 0] (s1.getD 0 undef) t36 (fun t37 w =>
  K2 [t37] w) w) w)
  (K2 [(s1.getD 0 undef)] w)) w) w) w) w) w) w) w) w) w) w) (fun s2 w => ∀ _ : List Value,
  M.bin .add (s1.getD 1 undef) (Value.int IntKind.i64 1) (fun t18 w =>
  K1 [(s2.getD 0 undef), t18] w) w) w)
  (M.loop [(Value.slice none 0 0), (Value.int IntKind.i64 0)] (fun s3 K3 w => ∀ _ : List Value,
  M.len (s1.getD 0 undef) (fun t40 w =>
  M.bin .lss (s3.getD 1 undef) t40 (fun t41 w =>
  M.cond t41
  (M.share (fun K4 w =>
  M.loop [(Value.bool false), (Value.int IntKind.i64 0)] (fun s5 K5 w => ∀ _ : List Value,
  M.len (s1.getD 0 undef) (fun t46 w =>
  M.bin .lss (s5.getD 1 undef) t46 (fun t47 w =>
  M.cond t47
  (M.draw (fun w =>
  M.indexSl 1 (s1.getD 0 undef) (s5.getD 1 undef) (fun t52 w =>
  M.load1 t52 (fun t53 w =>
  M.len t53 (fun t54 w =>
  M.indexSl 1 (s1.getD 0 undef) (s3.getD 1 undef) (fun t57 w =>
  M.load1 t57 (fun t58 w =>
  M.len t58 (fun t59 w =>
  M.bin .lss t54 t59 (fun t60 w =>
  M.draw (fun w =>
  M.gd (s5.getD 0 undef) false (fun k w => k t60 w) (fun t63 w =>
  M.gd (s5.getD 0 undef) false (fun k w => k t63 w) (fun t64 w =>
  M.gd t64 false (fun k w => k (s5.getD 1 undef) w) (fun t65 w =>
  M.gd t64 false (fun k w => k (s3.getD 1 undef) w) (fun t66 w =>
  M.gd t64 false (fun k w => M.bin .lss t65 t66 k w) (fun t67 w =>
  M.gd t64 false (fun k w => k t67 w) (fun t68 w =>
  M.gd t68 true (fun k w => k (s1.getD 0 undef) w) (fun t69 w =>
  M.gd t68 true (fun k w => k (s5.getD 1 undef) w) (fun t70 w =>
  M.gd t68 true (fun k w => M.indexSl 1 t69 t70 k w) (fun t71 w =>
  M.gd t68 true (fun k w => M.load1 t71 k w) (fun t72 w =>
  M.gd t68 true (fun k w => M.len t72 k w) (fun t73 w =>
  M.gd t68 true (fun k w => k (s1.getD 0 undef) w) (fun t74 w =>
  M.gd t68 true (fun k w => k (s3.getD 1 undef) w) (fun t75 w =>
  M.gd t68 true (fun k w => M.indexSl 1 t74 t75 k w) (fun t76 w =>
  M.gd t68 true (fun k w => M.load1 t76 k w) (fun t77 w =>
  M.gd t68 true (fun k w => M.len t77 k w) (fun t78 w =>
  M.gd t68 true (fun k w => M.bin .eql t73 t78 k w) (fun t79 w =>
  M.gd t64 false (fun k w => M.pick t68 t79 (Value.bool false) k w) (fun t80 w =>
  M.gd (s5.getD 0 undef) false (fun k w => M.pick t64 (Value.bool true) t80 k w) (fun t81 w =>
  M.gd (s5.getD 0 undef) false (fun k w => k t81 w) (fun t82 w =>
  M.gd t82 true (fun k w => k (s1.getD 0 undef) w) (fun t83 w =>
  M.gd t82 true (fun k w => k (s5.getD 1 undef) w) (fun t84 w =>
  M.gd t82 true (fun k w => M.indexSl 1 t83 t84 k w) (fun t85 w =>
  M.gd t82 true (fun k w => M.load1 t85 k w) (fun t86 w =>
  M.gd t82 true (fun k w => k (s1.getD 0 undef) w) (fun t87 w =>
  M.gd t82 true (fun k w => k (s3.getD 1 undef) w) (fun t88 w =>
  M.gd t82 true (fun k w => M.indexSl 1 t87 t88 k w) (fun t89 w =>
  M.gd t82 true (fun k w => M.load1 t89 k w) (fun t90 w =>
  M.gd t82 true (fun k w => M.call Try.prog 22 #[t86, t90] k w) (fun t91 w =>
  ((M.gd t68 true (fun k w => M.load1 t76 k w) (fun v' _ => v' = t77) w) ∧ ((M.gd t68 true (fun k w => M.load1 t71 k w) (fun v' _ => v' = t72) w) ∧ M.gd (s5.getD 0 undef) false (fun k w => M.pick t82 t91 (Value.bool false) k w) (fun t92 w =>
  M.pick (s5.getD 0 undef) (Value.bool true) t92 (fun t93 w =>
  M.bin .add (s5.getD 1 undef) (Value.int IntKind.i64 1) (fun t49 w =>
  K5 [t93, t49] w) w) w) w))) w) w) w) w) w) w) w) w) w) w) w) w) w) w) w) w) w) w) w) w) w) w) w) w) w) w) w) w) w) w) w) w) w) w) w) w) w) w)
  (M.not (s5.getD 0 undef) (fun t95 w =>
  M.cond t95
  (M.indexSl 1 (s1.getD 0 undef) (s3.getD 1 undef) (fun t99 w =>
  M.load1 t99 (fun t100 w =>
  M.buildSlice 22 1 #[.slice none 0 0] 1 [(0, t100)] (fun t101 w =>
  M.append 22 1 24 #[.slice none 0 0] (s3.getD 0 undef) t101 (fun t102 w =>
  K4 [t102] w) w) w) w) w)
  (K4 [(s3.getD 0 undef)] w)) w)) w) w) w) (fun s4 w => ∀ _ : List Value,
  M.bin .add (s3.getD 1 undef) (Value.int IntKind.i64 1) (fun t43 w =>
  K3 [(s4.getD 0 undef), t43] w) w) w)
  (R (s3.getD 0 undef) w)) w) w) w)) w) w) w
theorem ok33 (x0 : Value) (R : Kt) (w : World) (h : sh33 x0 R w) : Ret Try.prog 33 #[x0] w R :=
  ret_mk <| calls_of_comp mixed (c := Try.f33.body.getD .skip) (args := [x0]) (rs := [(ResultVar.tmp 2)]) (Ann.seq Ann.text (Ann.seq Ann.text (Ann.seq (Ann.seq Ann.text (Ann.block (Ann.loop [3, 4] [5, 6, 7, 13, 14, 15, 16, 17, 18, 19, 20, 21, 22, 23, 24, 25, 26, 27, 28, 29, 30, 31, 32, 33, 34, 35, 36, 37] (Ann.seq (Ann.seq Ann.text (Ann.cond Ann.leaf Ann.leaf)) (Ann.seq (Ann.jblock [3] [5, 6, 7, 19, 20, 21, 22, 23, 24, 25, 26, 27, 28, 29, 30, 31, 32, 33, 34, 35, 36, 37] (Ann.seq Ann.text (Ann.seq Ann.text (Ann.cond Ann.text Ann.leaf)))) Ann.text))))) (Ann.seq Ann.text (Ann.seq (Ann.seq Ann.text (Ann.block (Ann.loop [8, 9] [10, 11, 12, 38, 39, 40, 41, 42, 43, 44, 45, 46, 47, 48, 49, 50, 51, 52, 53, 54, 55, 56, 57, 58, 59, 60, 61, 62, 63, 64, 65, 66, 67, 68, 69, 70, 71, 72, 73, 74, 75, 76, 77, 78, 79, 80, 81, 82, 83, 84, 85, 86, 87, 88, 89, 90, 91, 92, 93, 94, 95, 96, 97, 98, 99, 100, 101, 102] (Ann.seq (Ann.seq Ann.text (Ann.cond Ann.leaf Ann.leaf)) (Ann.seq (Ann.jblock [8] [10, 11, 12, 44, 45, 46, 47, 48, 49, 50, 51, 52, 53, 54, 55, 56, 57, 58, 59, 60, 61, 62, 63, 64, 65, 66, 67, 68, 69, 70, 71, 72, 73, 74, 75, 76, 77, 78, 79, 80, 81, 82, 83, 84, 85, 86, 87, 88, 89, 90, 91, 92, 93, 94, 95, 96, 97, 98, 99, 100, 101, 102] (Ann.seq Ann.text (Ann.seq (Ann.seq Ann.text (Ann.block (Ann.loop [10, 11] [12, 44, 45, 46, 47, 48, 49, 50, 51, 52, 53, 54, 55, 56, 57, 58, 59, 60, 61, 62, 63, 64, 65, 66, 67, 68, 69, 70, 71, 72, 73, 74, 75, 76, 77, 78, 79, 80, 81, 82, 83, 84, 85, 86, 87, 88, 89, 90, 91, 92, 93] (Ann.seq (Ann.seq Ann.text (Ann.cond Ann.leaf Ann.leaf)) (Ann.seq (Ann.block (Ann.seq (Ann.draw (Sch.take 0 (Sch.take 1 (Sch.take 2 (Sch.take 3 (Sch.take 4 (Sch.take 5 (Sch.take 6 (Sch.take 7 (Sch.take 8 (Sch.take 9 (Sch.take 10 (Sch.take 11 Sch.done))))))))))))) (Ann.draw (Sch.take 0 (Sch.take 1 (Sch.take 2 (Sch.take 3 (Sch.take 4 (Sch.take 5 (Sch.take 6 (Sch.take 7 (Sch.take 8 (Sch.take 9 (Sch.take 10 (Sch.take 11 (Sch.take 12 (Sch.take 13 (Sch.take 14 (Sch.take 15 (Sch.take 16 (Sch.take 17 (Sch.take 18 (Sch.take 19 (Sch.take 20 (Sch.take 21 (Sch.take 22 (Sch.take 23 (Sch.take 24 (Sch.take 25 (Sch.take 26 (Sch.take 27 (Sch.take 28 (Sch.take 29 (Sch.one 30 (Sch.take 31 (Sch.take 32 (Sch.take 33 Sch.done))))))))))))))))))))))))))))))))))))) Ann.text))))) (Ann.seq Ann.text (Ann.cond Ann.text Ann.leaf))))) Ann.text))))) (Ann.seq Ann.text Ann.leaf))))))
    Try.func33 (by kernel_rfl) (by kernel_rfl)
    (Eq.mp (by kernel_rfl) h)

theorem more_ret {w : World} {D D' : Nat → Prop} {u v : Value} {a b : List Int} (h1 : LV vi w D u a) (h2 : LV vi w D' v b) (hf : a.length ≤ 100000000) (hy : b.length ≤ 100000000) (ah : Bool) :
    Ret Try.prog 68 #[u, v, .bool ah] w (fun r w' => r = .bool (moreB a b ah) ∧ Keep w w' No) := by
  obtain ⟨A, ca, rfl, _, _⟩ := id h1
  obtain ⟨B, cb, rfl, _, _⟩ := id h2
  refine ok68 _ _ _ _ _ ?_
  unfold sh68
  by_cases hlt : a.length < b.length
  · (repeat (first | refine M.len_i ?_ | refine M.nilCheck_i ?_ | refine M.field_i ?_ | refine M.draw_i ?_ | refine M.cap_i ?_ | refine M.gd_tt ?_ | refine M.gd_ff ?_ | refine M.gd_ft ?_ | refine M.gd_tf ?_ | refine M.gd_u ?_ | refine M.pick_t ?_ | refine M.pick_f ?_ | refine M.not_t ?_ | refine M.not_f ?_ | refine M.cond_t ?_ | refine M.cond_f ?_ | refine M.eqNilP_tn ?_ | refine M.eqNilP_ts ?_ | refine M.eqNilP_fn ?_ | refine M.eqNilP_fs ?_ | refine M.eqNilS_tn ?_ | refine M.eqNilS_ts ?_ | refine M.eqNilS_fn ?_ | refine M.eqNilS_fs ?_ | refine M.lss_t (by omega) ?_ | refine M.lss_f (by omega) ?_ | refine M.leq_t (by omega) ?_ | refine M.leq_f (by omega) ?_ | refine M.gtr_t (by omega) ?_ | refine M.gtr_f (by omega) ?_ | refine M.geq_t (by omega) ?_ | refine M.geq_f (by omega) ?_ | refine M.eql_t (by omega) ?_ | refine M.eql_f (by omega) ?_ | refine M.neq_t (by omega) ?_ | refine M.neq_f (by omega) ?_ | refine M.add_i (by omega) (by omega) ?_ | refine M.sub_i (by omega) (by omega) ?_ | refine M.load_i (by assumption) ?_ | refine M.loadB_i (by assumption) rfl ?_ | refine M.st_i (by assumption) ?_ | refine M.stB_i (by assumption) rfl ?_ | refine M.gs_ff ?_ | refine M.gs_tt ?_ | refine M.gs_ft ?_ | refine M.gs_tf ?_ | refine M.stAll_i (by assumption) rfl ?_))
    refine M.call_i (cwithin_ret h1 h2 (by omega) (by omega)) ?_; rintro _ w1 ⟨rfl, k1⟩
    (repeat (first | refine M.len_i ?_ | refine M.nilCheck_i ?_ | refine M.field_i ?_ | refine M.draw_i ?_ | refine M.cap_i ?_ | refine M.gd_tt ?_ | refine M.gd_ff ?_ | refine M.gd_ft ?_ | refine M.gd_tf ?_ | refine M.gd_u ?_ | refine M.pick_t ?_ | refine M.pick_f ?_ | refine M.not_t ?_ | refine M.not_f ?_ | refine M.cond_t ?_ | refine M.cond_f ?_ | refine M.eqNilP_tn ?_ | refine M.eqNilP_ts ?_ | refine M.eqNilP_fn ?_ | refine M.eqNilP_fs ?_ | refine M.eqNilS_tn ?_ | refine M.eqNilS_ts ?_ | refine M.eqNilS_fn ?_ | refine M.eqNilS_fs ?_ | refine M.lss_t (by omega) ?_ | refine M.lss_f (by omega) ?_ | refine M.leq_t (by omega) ?_ | refine M.leq_f (by omega) ?_ | refine M.gtr_t (by omega) ?_ | refine M.gtr_f (by omega) ?_ | refine M.geq_t (by omega) ?_ | refine M.geq_f (by omega) ?_ | refine M.eql_t (by omega) ?_ | refine M.eql_f (by omega) ?_ | refine M.neq_t (by omega) ?_ | refine M.neq_f (by omega) ?_ | refine M.add_i (by omega) (by omega) ?_ | refine M.sub_i (by omega) (by omega) ?_ | refine M.load_i (by assumption) ?_ | refine M.loadB_i (by assumption) rfl ?_ | refine M.st_i (by assumption) ?_ | refine M.stB_i (by assumption) rfl ?_ | refine M.gs_ff ?_ | refine M.gs_tt ?_ | refine M.gs_ft ?_ | refine M.gs_tf ?_ | refine M.stAll_i (by assumption) rfl ?_))
    refine ⟨?_, k1⟩
    have : moreB a b ah = a.all (inB b) := by simp [moreB, hlt]
    rw [this]; rfl
  · cases ah with
    | false =>
      (repeat (first | refine M.len_i ?_ | refine M.nilCheck_i ?_ | refine M.field_i ?_ | refine M.draw_i ?_ | refine M.cap_i ?_ | refine M.gd_tt ?_ | refine M.gd_ff ?_ | refine M.gd_ft ?_ | refine M.gd_tf ?_ | refine M.gd_u ?_ | refine M.pick_t ?_ | refine M.pick_f ?_ | refine M.not_t ?_ | refine M.not_f ?_ | refine M.cond_t ?_ | refine M.cond_f ?_ | refine M.eqNilP_tn ?_ | refine M.eqNilP_ts ?_ | refine M.eqNilP_fn ?_ | refine M.eqNilP_fs ?_ | refine M.eqNilS_tn ?_ | refine M.eqNilS_ts ?_ | refine M.eqNilS_fn ?_ | refine M.eqNilS_fs ?_ | refine M.lss_t (by omega) ?_ | refine M.lss_f (by omega) ?_ | refine M.leq_t (by omega) ?_ | refine M.leq_f (by omega) ?_ | refine M.gtr_t (by omega) ?_ | refine M.gtr_f (by omega) ?_ | refine M.geq_t (by omega) ?_ | refine M.geq_f (by omega) ?_ | refine M.eql_t (by omega) ?_ | refine M.eql_f (by omega) ?_ | refine M.neq_t (by omega) ?_ | refine M.neq_f (by omega) ?_ | refine M.add_i (by omega) (by omega) ?_ | refine M.sub_i (by omega) (by omega) ?_ | refine M.load_i (by assumption) ?_ | refine M.loadB_i (by assumption) rfl ?_ | refine M.st_i (by assumption) ?_ | refine M.stB_i (by assumption) rfl ?_ | refine M.gs_ff ?_ | refine M.gs_tt ?_ | refine M.gs_ft ?_ | refine M.gs_tf ?_ | refine M.stAll_i (by assumption) rfl ?_))
      exact ⟨by simp [moreB, hlt], Keep.refl _ _⟩
    | true =>
      by_cases he : a.length = b.length
      · (repeat (first | refine M.len_i ?_ | refine M.nilCheck_i ?_ | refine M.field_i ?_ | refine M.draw_i ?_ | refine M.cap_i ?_ | refine M.gd_tt ?_ | refine M.gd_ff ?_ | refine M.gd_ft ?_ | refine M.gd_tf ?_ | refine M.gd_u ?_ | refine M.pick_t ?_ | refine M.pick_f ?_ | refine M.not_t ?_ | refine M.not_f ?_ | refine M.cond_t ?_ | refine M.cond_f ?_ | refine M.eqNilP_tn ?_ | refine M.eqNilP_ts ?_ | refine M.eqNilP_fn ?_ | refine M.eqNilP_fs ?_ | refine M.eqNilS_tn ?_ | refine M.eqNilS_ts ?_ | refine M.eqNilS_fn ?_ | refine M.eqNilS_fs ?_ | refine M.lss_t (by omega) ?_ | refine M.lss_f (by omega) ?_ | refine M.leq_t (by omega) ?_ | refine M.leq_f (by omega) ?_ | refine M.gtr_t (by omega) ?_ | refine M.gtr_f (by omega) ?_ | refine M.geq_t (by omega) ?_ | refine M.geq_f (by omega) ?_ | refine M.eql_t (by omega) ?_ | refine M.eql_f (by omega) ?_ | refine M.neq_t (by omega) ?_ | refine M.neq_f (by omega) ?_ | refine M.add_i (by omega) (by omega) ?_ | refine M.sub_i (by omega) (by omega) ?_ | refine M.load_i (by assumption) ?_ | refine M.loadB_i (by assumption) rfl ?_ | refine M.st_i (by assumption) ?_ | refine M.stB_i (by assumption) rfl ?_ | refine M.gs_ff ?_ | refine M.gs_tt ?_ | refine M.gs_ft ?_ | refine M.gs_tf ?_ | refine M.stAll_i (by assumption) rfl ?_))
        refine M.call_i (cwithin_ret h1 h2 (by omega) (by omega)) ?_; rintro _ w1 ⟨rfl, k1⟩
        (repeat (first | refine M.len_i ?_ | refine M.nilCheck_i ?_ | refine M.field_i ?_ | refine M.draw_i ?_ | refine M.cap_i ?_ | refine M.gd_tt ?_ | refine M.gd_ff ?_ | refine M.gd_ft ?_ | refine M.gd_tf ?_ | refine M.gd_u ?_ | refine M.pick_t ?_ | refine M.pick_f ?_ | refine M.not_t ?_ | refine M.not_f ?_ | refine M.cond_t ?_ | refine M.cond_f ?_ | refine M.eqNilP_tn ?_ | refine M.eqNilP_ts ?_ | refine M.eqNilP_fn ?_ | refine M.eqNilP_fs ?_ | refine M.eqNilS_tn ?_ | refine M.eqNilS_ts ?_ | refine M.eqNilS_fn ?_ | refine M.eqNilS_fs ?_ | refine M.lss_t (by omega) ?_ | refine M.lss_f (by omega) ?_ | refine M.leq_t (by omega) ?_ | refine M.leq_f (by omega) ?_ | refine M.gtr_t (by omega) ?_ | refine M.gtr_f (by omega) ?_ | refine M.geq_t (by omega) ?_ | refine M.geq_f (by omega) ?_ | refine M.eql_t (by omega) ?_ | refine M.eql_f (by omega) ?_ | refine M.neq_t (by omega) ?_ | refine M.neq_f (by omega) ?_ | refine M.add_i (by omega) (by omega) ?_ | refine M.sub_i (by omega) (by omega) ?_ | refine M.load_i (by assumption) ?_ | refine M.loadB_i (by assumption) rfl ?_ | refine M.st_i (by assumption) ?_ | refine M.stB_i (by assumption) rfl ?_ | refine M.gs_ff ?_ | refine M.gs_tt ?_ | refine M.gs_ft ?_ | refine M.gs_tf ?_ | refine M.stAll_i (by assumption) rfl ?_))
        refine ⟨?_, k1⟩
        have : moreB a b true = a.all (inB b) := by simp [moreB, he]
        rw [this]; rfl
      · (repeat (first | refine M.len_i ?_ | refine M.nilCheck_i ?_ | refine M.field_i ?_ | refine M.draw_i ?_ | refine M.cap_i ?_ | refine M.gd_tt ?_ | refine M.gd_ff ?_ | refine M.gd_ft ?_ | refine M.gd_tf ?_ | refine M.gd_u ?_ | refine M.pick_t ?_ | refine M.pick_f ?_ | refine M.not_t ?_ | refine M.not_f ?_ | refine M.cond_t ?_ | refine M.cond_f ?_ | refine M.eqNilP_tn ?_ | refine M.eqNilP_ts ?_ | refine M.eqNilP_fn ?_ | refine M.eqNilP_fs ?_ | refine M.eqNilS_tn ?_ | refine M.eqNilS_ts ?_ | refine M.eqNilS_fn ?_ | refine M.eqNilS_fs ?_ | refine M.lss_t (by omega) ?_ | refine M.lss_f (by omega) ?_ | refine M.leq_t (by omega) ?_ | refine M.leq_f (by omega) ?_ | refine M.gtr_t (by omega) ?_ | refine M.gtr_f (by omega) ?_ | refine M.geq_t (by omega) ?_ | refine M.geq_f (by omega) ?_ | refine M.eql_t (by omega) ?_ | refine M.eql_f (by omega) ?_ | refine M.neq_t (by omega) ?_ | refine M.neq_f (by omega) ?_ | refine M.add_i (by omega) (by omega) ?_ | refine M.sub_i (by omega) (by omega) ?_ | refine M.load_i (by assumption) ?_ | refine M.loadB_i (by assumption) rfl ?_ | refine M.st_i (by assumption) ?_ | refine M.stB_i (by assumption) rfl ?_ | refine M.gs_ff ?_ | refine M.gs_tt ?_ | refine M.gs_ft ?_ | refine M.gs_tf ?_ | refine M.stAll_i (by assumption) rfl ?_))
        exact ⟨by simp [moreB, hlt, he], Keep.refl _ _⟩
theorem normsL_snoc (l : List (List Int)) (c : List Int) : normsL (l ++ [c]) = normsL l ++ if (normD c).2.2 = 0 ∧ (normD c).2.1 = false then [(normD c).1] else [] := by
  unfold normsL
  rw [List.filter_append, List.map_append]
  congr 1
  by_cases h1 : (normD c).2.2 = 0
  · cases h2 : (normD c).2.1 <;> simp [h1, h2]
  · simp [h1]
theorem normsL_len (l : List (List Int)) : (normsL l).length ≤ l.length := by
  unfold normsL
  rw [List.length_map]; exact List.length_filter_le _ _
theorem normsL_few {l : List (List Int)} {k : Nat} (h : ∀ c ∈ l, c.length ≤ k) : ∀ d ∈ normsL l, d.length ≤ k := fun d hd => by
  obtain ⟨c, hc, _, _, rfl⟩ := mem_normsL.1 hd
  have := h c hc
  unfold normD
  split
  · simp
  · exact Nat.le_trans (len_srt _) this
theorem goneB_succ {all : List (List Int)} {i n : Nat} {c d : List Int} (h : all[n]? = some d) : goneB all i c (n + 1) = (goneB all i c n || moreB d c (decide (n < i))) := by
  unfold goneB
  rw [List.range_succ, List.any_append]
  simp [h]
theorem subsU_succ {all : List (List Int)} {n : Nat} {c : List Int} (h : all[n]? = some c) : subsU all (n + 1) = subsU all n ++ if goneB all n c all.length then [] else [c] := by
  unfold subsU
  rw [List.range_succ, List.filterMap_append]
  congr 1
  simp only [List.filterMap_cons, List.filterMap_nil, h]
  cases goneB all n c all.length <;> simp
theorem subsU_len (all : List (List Int)) (n : Nat) : (subsU all n).length ≤ n := by
  unfold subsU
  refine Nat.le_trans (List.length_filterMap_le _ _) (by simp)
theorem goneB_stop {all : List (List Int)} {i n m : Nat} {c : List Int} (h : goneB all i c n = true) (hn : n ≤ m) : goneB all i c m = true := by
  unfold goneB at h ⊢
  obtain ⟨k, hk, h1⟩ := List.any_eq_true.1 h
  exact List.any_eq_true.2 ⟨k, by rw [List.mem_range] at hk ⊢; omega, h1⟩
set_option maxHeartbeats 2000000 in
theorem subsume_ret {w : World} {D : Nat → Prop} {u : Value} {l : List (List Int)} (hl : LL w D u l) (hfl : l.length ≤ 1000000) (hfc : ∀ c ∈ l, c.length ≤ 100000000) (hI : ∀ c ∈ l, ∀ x ∈ c, I64 x) :
    Ret Try.prog 32 #[u] w (fun r w' => LL w' (fun _ => True) r (subsL l) ∧ Keep w w' No) := by
  obtain ⟨A, cp, us, rfl, hlr, hcp⟩ := id hl
  refine ok32 _ _ _ ?_
  unfold sh32
  (repeat (first | refine M.len_i ?_ | refine M.nilCheck_i ?_ | refine M.field_i ?_ | refine M.draw_i ?_ | refine M.cap_i ?_ | refine M.gd_tt ?_ | refine M.gd_ff ?_ | refine M.gd_ft ?_ | refine M.gd_tf ?_ | refine M.gd_u ?_ | refine M.pick_t ?_ | refine M.pick_f ?_ | refine M.not_t ?_ | refine M.not_f ?_ | refine M.cond_t ?_ | refine M.cond_f ?_ | refine M.eqNilP_tn ?_ | refine M.eqNilP_ts ?_ | refine M.eqNilP_fn ?_ | refine M.eqNilP_fs ?_ | refine M.eqNilS_tn ?_ | refine M.eqNilS_ts ?_ | refine M.eqNilS_fn ?_ | refine M.eqNilS_fs ?_ | refine M.lss_t (by omega) ?_ | refine M.lss_f (by omega) ?_ | refine M.leq_t (by omega) ?_ | refine M.leq_f (by omega) ?_ | refine M.gtr_t (by omega) ?_ | refine M.gtr_f (by omega) ?_ | refine M.geq_t (by omega) ?_ | refine M.geq_f (by omega) ?_ | refine M.eql_t (by omega) ?_ | refine M.eql_f (by omega) ?_ | refine M.neq_t (by omega) ?_ | refine M.neq_f (by omega) ?_ | refine M.add_i (by omega) (by omega) ?_ | refine M.sub_i (by omega) (by omega) ?_ | refine M.load_i (by assumption) ?_ | refine M.loadB_i (by assumption) rfl ?_ | refine M.st_i (by assumption) ?_ | refine M.stB_i (by assumption) rfl ?_ | refine M.gs_ff ?_ | refine M.gs_tt ?_ | refine M.gs_ft ?_ | refine M.gs_tf ?_ | refine M.stAll_i (by assumption) rfl ?_))
  refine M.loop_i (σ := Nat) (fun i vals w' => ∃ vo us', vals = [vo, vi i] ∧ i ≤ l.length ∧ OL w w' vo us' (normsL (l.take i)) ∧ Keep w w' No) (fun i => l.length - i) 0
    ⟨_, [], rfl, by omega, OL.nil _ _, Keep.refl _ _⟩ ?_
  rintro i vals w1 K ⟨vo, us', rfl, hi, ho, k1⟩ hK _
  simp only [List.getD_cons_zero, List.getD_cons_succ]
  have hl1 := hlr.keep k1 (fun _ _ _ h => h)
  have q1 := k1.size
  by_cases hlt : i < l.length
  · obtain ⟨c, hc⟩ : ∃ c, l[i]? = some c := ⟨_, List.getElem?_eq_getElem hlt⟩
    have hcm := List.mem_of_getElem? hc
    have e1 := normsL_snoc (l.take i) c
    rw [← take_snoc hc] at e1
    have hnl := normsL_len (l.take i)
    rw [List.length_take] at hnl
    have hcf := hfc c hcm
    (repeat (first | refine M.len_i ?_ | refine M.nilCheck_i ?_ | refine M.field_i ?_ | refine M.draw_i ?_ | refine M.cap_i ?_ | refine M.gd_tt ?_ | refine M.gd_ff ?_ | refine M.gd_ft ?_ | refine M.gd_tf ?_ | refine M.gd_u ?_ | refine M.pick_t ?_ | refine M.pick_f ?_ | refine M.not_t ?_ | refine M.not_f ?_ | refine M.cond_t ?_ | refine M.cond_f ?_ | refine M.eqNilP_tn ?_ | refine M.eqNilP_ts ?_ | refine M.eqNilP_fn ?_ | refine M.eqNilP_fs ?_ | refine M.eqNilS_tn ?_ | refine M.eqNilS_ts ?_ | refine M.eqNilS_fn ?_ | refine M.eqNilS_fs ?_ | refine M.lss_t (by omega) ?_ | refine M.lss_f (by omega) ?_ | refine M.leq_t (by omega) ?_ | refine M.leq_f (by omega) ?_ | refine M.gtr_t (by omega) ?_ | refine M.gtr_f (by omega) ?_ | refine M.geq_t (by omega) ?_ | refine M.geq_f (by omega) ?_ | refine M.eql_t (by omega) ?_ | refine M.eql_f (by omega) ?_ | refine M.neq_t (by omega) ?_ | refine M.neq_f (by omega) ?_ | refine M.add_i (by omega) (by omega) ?_ | refine M.sub_i (by omega) (by omega) ?_ | refine M.load_i (by assumption) ?_ | refine M.loadB_i (by assumption) rfl ?_ | refine M.st_i (by assumption) ?_ | refine M.stB_i (by assumption) rfl ?_ | refine M.gs_ff ?_ | refine M.gs_tt ?_ | refine M.gs_ft ?_ | refine M.gs_tf ?_ | refine M.stAll_i (by assumption) rfl ?_))
    refine M.share_j (fun vals w' => ∃ vo us', vals = [vo] ∧ OL w w' vo us' (normsL (l.take (i + 1))) ∧ Keep w w' No) ?_ ?_
    · rintro vals w5 ⟨vo, us', rfl, ho, k5⟩ _
      simp only [List.getD_cons_zero, List.getD_cons_succ]
      (repeat (first | refine M.len_i ?_ | refine M.nilCheck_i ?_ | refine M.field_i ?_ | refine M.draw_i ?_ | refine M.cap_i ?_ | refine M.gd_tt ?_ | refine M.gd_ff ?_ | refine M.gd_ft ?_ | refine M.gd_tf ?_ | refine M.gd_u ?_ | refine M.pick_t ?_ | refine M.pick_f ?_ | refine M.not_t ?_ | refine M.not_f ?_ | refine M.cond_t ?_ | refine M.cond_f ?_ | refine M.eqNilP_tn ?_ | refine M.eqNilP_ts ?_ | refine M.eqNilP_fn ?_ | refine M.eqNilP_fs ?_ | refine M.eqNilS_tn ?_ | refine M.eqNilS_ts ?_ | refine M.eqNilS_fn ?_ | refine M.eqNilS_fs ?_ | refine M.lss_t (by omega) ?_ | refine M.lss_f (by omega) ?_ | refine M.leq_t (by omega) ?_ | refine M.leq_f (by omega) ?_ | refine M.gtr_t (by omega) ?_ | refine M.gtr_f (by omega) ?_ | refine M.geq_t (by omega) ?_ | refine M.geq_f (by omega) ?_ | refine M.eql_t (by omega) ?_ | refine M.eql_f (by omega) ?_ | refine M.neq_t (by omega) ?_ | refine M.neq_f (by omega) ?_ | refine M.add_i (by omega) (by omega) ?_ | refine M.sub_i (by omega) (by omega) ?_ | refine M.load_i (by assumption) ?_ | refine M.loadB_i (by assumption) rfl ?_ | refine M.st_i (by assumption) ?_ | refine M.stB_i (by assumption) rfl ?_ | refine M.gs_ff ?_ | refine M.gs_tt ?_ | refine M.gs_ft ?_ | refine M.gs_tf ?_ | refine M.stAll_i (by assumption) rfl ?_))
      exact hK (i + 1) _ _ (by omega) ⟨vo, us', by simp, by omega, ho, k5⟩
    · intro K2 hK2
      refine M.idxLL_i hl1 rfl (by omega) (c := c) (by simpa using hc) (fun bb oo x hcell hx => ?_)
      (repeat (first | refine M.len_i ?_ | refine M.nilCheck_i ?_ | refine M.field_i ?_ | refine M.draw_i ?_ | refine M.cap_i ?_ | refine M.gd_tt ?_ | refine M.gd_ff ?_ | refine M.gd_ft ?_ | refine M.gd_tf ?_ | refine M.gd_u ?_ | refine M.pick_t ?_ | refine M.pick_f ?_ | refine M.not_t ?_ | refine M.not_f ?_ | refine M.cond_t ?_ | refine M.cond_f ?_ | refine M.eqNilP_tn ?_ | refine M.eqNilP_ts ?_ | refine M.eqNilP_fn ?_ | refine M.eqNilP_fs ?_ | refine M.eqNilS_tn ?_ | refine M.eqNilS_ts ?_ | refine M.eqNilS_fn ?_ | refine M.eqNilS_fs ?_ | refine M.lss_t (by omega) ?_ | refine M.lss_f (by omega) ?_ | refine M.leq_t (by omega) ?_ | refine M.leq_f (by omega) ?_ | refine M.gtr_t (by omega) ?_ | refine M.gtr_f (by omega) ?_ | refine M.geq_t (by omega) ?_ | refine M.geq_f (by omega) ?_ | refine M.eql_t (by omega) ?_ | refine M.eql_f (by omega) ?_ | refine M.neq_t (by omega) ?_ | refine M.neq_f (by omega) ?_ | refine M.add_i (by omega) (by omega) ?_ | refine M.sub_i (by omega) (by omega) ?_ | refine M.load_i (by assumption) ?_ | refine M.loadB_i (by assumption) rfl ?_ | refine M.st_i (by assumption) ?_ | refine M.stB_i (by assumption) rfl ?_ | refine M.gs_ff ?_ | refine M.gs_tt ?_ | refine M.gs_ft ?_ | refine M.gs_tf ?_ | refine M.stAll_i (by assumption) rfl ?_))
      refine M.call_i (normal_ret hx (by omega) (hI c hcm)) ?_; rintro _ w2 ⟨v2, rfl, g2, k2⟩
      refine M.extract_i rfl ?_
      refine M.extract_i rfl ?_
      refine M.extract_i rfl ?_
      refine M.eql_i ?_
      have k12 := k1.trans k2 (fun _ _ h => h)
      by_cases h0 : (normD c).2.2 = 0
      · rw [decide_eq_true h0]
        cases ha : (normD c).2.1 with
        | true =>
          rw [if_neg (by simp [ha]), List.append_nil] at e1
          (repeat (first | refine M.len_i ?_ | refine M.nilCheck_i ?_ | refine M.field_i ?_ | refine M.draw_i ?_ | refine M.cap_i ?_ | refine M.gd_tt ?_ | refine M.gd_ff ?_ | refine M.gd_ft ?_ | refine M.gd_tf ?_ | refine M.gd_u ?_ | refine M.pick_t ?_ | refine M.pick_f ?_ | refine M.not_t ?_ | refine M.not_f ?_ | refine M.cond_t ?_ | refine M.cond_f ?_ | refine M.eqNilP_tn ?_ | refine M.eqNilP_ts ?_ | refine M.eqNilP_fn ?_ | refine M.eqNilP_fs ?_ | refine M.eqNilS_tn ?_ | refine M.eqNilS_ts ?_ | refine M.eqNilS_fn ?_ | refine M.eqNilS_fs ?_ | refine M.lss_t (by omega) ?_ | refine M.lss_f (by omega) ?_ | refine M.leq_t (by omega) ?_ | refine M.leq_f (by omega) ?_ | refine M.gtr_t (by omega) ?_ | refine M.gtr_f (by omega) ?_ | refine M.geq_t (by omega) ?_ | refine M.geq_f (by omega) ?_ | refine M.eql_t (by omega) ?_ | refine M.eql_f (by omega) ?_ | refine M.neq_t (by omega) ?_ | refine M.neq_f (by omega) ?_ | refine M.add_i (by omega) (by omega) ?_ | refine M.sub_i (by omega) (by omega) ?_ | refine M.load_i (by assumption) ?_ | refine M.loadB_i (by assumption) rfl ?_ | refine M.st_i (by assumption) ?_ | refine M.stB_i (by assumption) rfl ?_ | refine M.gs_ff ?_ | refine M.gs_tt ?_ | refine M.gs_ft ?_ | refine M.gs_tf ?_ | refine M.stAll_i (by assumption) rfl ?_))
          exact hK2 _ _ ⟨vo, us', rfl, e1 ▸ ho.keep k2, k12⟩
        | false =>
          rw [if_pos ⟨h0, ha⟩] at e1
          (repeat (first | refine M.len_i ?_ | refine M.nilCheck_i ?_ | refine M.field_i ?_ | refine M.draw_i ?_ | refine M.cap_i ?_ | refine M.gd_tt ?_ | refine M.gd_ff ?_ | refine M.gd_ft ?_ | refine M.gd_tf ?_ | refine M.gd_u ?_ | refine M.pick_t ?_ | refine M.pick_f ?_ | refine M.not_t ?_ | refine M.not_f ?_ | refine M.cond_t ?_ | refine M.cond_f ?_ | refine M.eqNilP_tn ?_ | refine M.eqNilP_ts ?_ | refine M.eqNilP_fn ?_ | refine M.eqNilP_fs ?_ | refine M.eqNilS_tn ?_ | refine M.eqNilS_ts ?_ | refine M.eqNilS_fn ?_ | refine M.eqNilS_fs ?_ | refine M.lss_t (by omega) ?_ | refine M.lss_f (by omega) ?_ | refine M.leq_t (by omega) ?_ | refine M.leq_f (by omega) ?_ | refine M.gtr_t (by omega) ?_ | refine M.gtr_f (by omega) ?_ | refine M.geq_t (by omega) ?_ | refine M.geq_f (by omega) ?_ | refine M.eql_t (by omega) ?_ | refine M.eql_f (by omega) ?_ | refine M.neq_t (by omega) ?_ | refine M.neq_f (by omega) ?_ | refine M.add_i (by omega) (by omega) ?_ | refine M.sub_i (by omega) (by omega) ?_ | refine M.load_i (by assumption) ?_ | refine M.loadB_i (by assumption) rfl ?_ | refine M.st_i (by assumption) ?_ | refine M.stB_i (by assumption) rfl ?_ | refine M.gs_ff ?_ | refine M.gs_tt ?_ | refine M.gs_ft ?_ | refine M.gs_tf ?_ | refine M.stAll_i (by assumption) rfl ?_))
          refine M.appendOL_i (ho.keep k2) (GI.ofL g2 _ (fun b hb h h2 => by have := (ho.lt h2).2; omega)) (by have := k2.size; omega) (by omega) (fun v7 us7 w7 h7 k7 => ?_)
          exact hK2 _ _ ⟨v7, us7, rfl, e1 ▸ h7, k12.trans k7 (fun b hb h => by omega)⟩
      · rw [decide_eq_false h0]
        rw [if_neg (by simp [h0]), List.append_nil] at e1
        (repeat (first | refine M.len_i ?_ | refine M.nilCheck_i ?_ | refine M.field_i ?_ | refine M.draw_i ?_ | refine M.cap_i ?_ | refine M.gd_tt ?_ | refine M.gd_ff ?_ | refine M.gd_ft ?_ | refine M.gd_tf ?_ | refine M.gd_u ?_ | refine M.pick_t ?_ | refine M.pick_f ?_ | refine M.not_t ?_ | refine M.not_f ?_ | refine M.cond_t ?_ | refine M.cond_f ?_ | refine M.eqNilP_tn ?_ | refine M.eqNilP_ts ?_ | refine M.eqNilP_fn ?_ | refine M.eqNilP_fs ?_ | refine M.eqNilS_tn ?_ | refine M.eqNilS_ts ?_ | refine M.eqNilS_fn ?_ | refine M.eqNilS_fs ?_ | refine M.lss_t (by omega) ?_ | refine M.lss_f (by omega) ?_ | refine M.leq_t (by omega) ?_ | refine M.leq_f (by omega) ?_ | refine M.gtr_t (by omega) ?_ | refine M.gtr_f (by omega) ?_ | refine M.geq_t (by omega) ?_ | refine M.geq_f (by omega) ?_ | refine M.eql_t (by omega) ?_ | refine M.eql_f (by omega) ?_ | refine M.neq_t (by omega) ?_ | refine M.neq_f (by omega) ?_ | refine M.add_i (by omega) (by omega) ?_ | refine M.sub_i (by omega) (by omega) ?_ | refine M.load_i (by assumption) ?_ | refine M.loadB_i (by assumption) rfl ?_ | refine M.st_i (by assumption) ?_ | refine M.stB_i (by assumption) rfl ?_ | refine M.gs_ff ?_ | refine M.gs_tt ?_ | refine M.gs_ft ?_ | refine M.gs_tf ?_ | refine M.stAll_i (by assumption) rfl ?_))
        exact hK2 _ _ ⟨vo, us', rfl, e1 ▸ ho.keep k2, k12⟩
  · have : i = l.length := by omega
    subst this
    rw [List.take_length] at ho
    have hlen := normsL_len l
    have hfew := normsL_few hfc
    unfold subsL
    generalize normsL l = all at ho hlen hfew ⊢
    obtain ⟨B, cb, vs, rfl, hbr, hcb⟩ := ho.ll
    clear hlt hK
    have hbr := hbr.mono (D' := fun b => b < w1.heap.size) (fun b hb _ => hb)
    (repeat (first | refine M.len_i ?_ | refine M.nilCheck_i ?_ | refine M.field_i ?_ | refine M.draw_i ?_ | refine M.cap_i ?_ | refine M.gd_tt ?_ | refine M.gd_ff ?_ | refine M.gd_ft ?_ | refine M.gd_tf ?_ | refine M.gd_u ?_ | refine M.pick_t ?_ | refine M.pick_f ?_ | refine M.not_t ?_ | refine M.not_f ?_ | refine M.cond_t ?_ | refine M.cond_f ?_ | refine M.eqNilP_tn ?_ | refine M.eqNilP_ts ?_ | refine M.eqNilP_fn ?_ | refine M.eqNilP_fs ?_ | refine M.eqNilS_tn ?_ | refine M.eqNilS_ts ?_ | refine M.eqNilS_fn ?_ | refine M.eqNilS_fs ?_ | refine M.lss_t (by omega) ?_ | refine M.lss_f (by omega) ?_ | refine M.leq_t (by omega) ?_ | refine M.leq_f (by omega) ?_ | refine M.gtr_t (by omega) ?_ | refine M.gtr_f (by omega) ?_ | refine M.geq_t (by omega) ?_ | refine M.geq_f (by omega) ?_ | refine M.eql_t (by omega) ?_ | refine M.eql_f (by omega) ?_ | refine M.neq_t (by omega) ?_ | refine M.neq_f (by omega) ?_ | refine M.add_i (by omega) (by omega) ?_ | refine M.sub_i (by omega) (by omega) ?_ | refine M.load_i (by assumption) ?_ | refine M.loadB_i (by assumption) rfl ?_ | refine M.st_i (by assumption) ?_ | refine M.stB_i (by assumption) rfl ?_ | refine M.gs_ff ?_ | refine M.gs_tt ?_ | refine M.gs_ft ?_ | refine M.gs_tf ?_ | refine M.stAll_i (by assumption) rfl ?_))
    refine M.loop_i (σ := Nat) (fun i vals w' => ∃ vo us', vals = [vo, vi i] ∧ i ≤ all.length ∧ OL w1 w' vo us' (subsU all i) ∧ Keep w1 w' No) (fun i => all.length - i) 0
      ⟨_, [], rfl, by omega, OL.nil _ _, Keep.refl _ _⟩ ?_
    rintro i vals w2 K ⟨vo, us2, rfl, hi, ho2, k2⟩ hK _
    simp only [List.getD_cons_zero, List.getD_cons_succ]
    have hb2 := hbr.keep k2 (fun _ _ _ h => h)
    have q2 := k2.size
    by_cases hlt : i < all.length
    · obtain ⟨c, hc⟩ : ∃ c, all[i]? = some c := ⟨_, List.getElem?_eq_getElem hlt⟩
      have hcm := List.mem_of_getElem? hc
      have e1 := subsU_succ hc
      have hsl := subsU_len all i
      (repeat (first | refine M.len_i ?_ | refine M.nilCheck_i ?_ | refine M.field_i ?_ | refine M.draw_i ?_ | refine M.cap_i ?_ | refine M.gd_tt ?_ | refine M.gd_ff ?_ | refine M.gd_ft ?_ | refine M.gd_tf ?_ | refine M.gd_u ?_ | refine M.pick_t ?_ | refine M.pick_f ?_ | refine M.not_t ?_ | refine M.not_f ?_ | refine M.cond_t ?_ | refine M.cond_f ?_ | refine M.eqNilP_tn ?_ | refine M.eqNilP_ts ?_ | refine M.eqNilP_fn ?_ | refine M.eqNilP_fs ?_ | refine M.eqNilS_tn ?_ | refine M.eqNilS_ts ?_ | refine M.eqNilS_fn ?_ | refine M.eqNilS_fs ?_ | refine M.lss_t (by omega) ?_ | refine M.lss_f (by omega) ?_ | refine M.leq_t (by omega) ?_ | refine M.leq_f (by omega) ?_ | refine M.gtr_t (by omega) ?_ | refine M.gtr_f (by omega) ?_ | refine M.geq_t (by omega) ?_ | refine M.geq_f (by omega) ?_ | refine M.eql_t (by omega) ?_ | refine M.eql_f (by omega) ?_ | refine M.neq_t (by omega) ?_ | refine M.neq_f (by omega) ?_ | refine M.add_i (by omega) (by omega) ?_ | refine M.sub_i (by omega) (by omega) ?_ | refine M.load_i (by assumption) ?_ | refine M.loadB_i (by assumption) rfl ?_ | refine M.st_i (by assumption) ?_ | refine M.stB_i (by assumption) rfl ?_ | refine M.gs_ff ?_ | refine M.gs_tt ?_ | refine M.gs_ft ?_ | refine M.gs_tf ?_ | refine M.stAll_i (by assumption) rfl ?_))
      refine M.share_j (fun vals w' => ∃ vo us', vals = [vo] ∧ OL w1 w' vo us' (subsU all (i + 1)) ∧ Keep w1 w' No) ?_ ?_
      · rintro vals w5 ⟨vo, us', rfl, ho, k5⟩ _
        simp only [List.getD_cons_zero, List.getD_cons_succ]
        (repeat (first | refine M.len_i ?_ | refine M.nilCheck_i ?_ | refine M.field_i ?_ | refine M.draw_i ?_ | refine M.cap_i ?_ | refine M.gd_tt ?_ | refine M.gd_ff ?_ | refine M.gd_ft ?_ | refine M.gd_tf ?_ | refine M.gd_u ?_ | refine M.pick_t ?_ | refine M.pick_f ?_ | refine M.not_t ?_ | refine M.not_f ?_ | refine M.cond_t ?_ | refine M.cond_f ?_ | refine M.eqNilP_tn ?_ | refine M.eqNilP_ts ?_ | refine M.eqNilP_fn ?_ | refine M.eqNilP_fs ?_ | refine M.eqNilS_tn ?_ | refine M.eqNilS_ts ?_ | refine M.eqNilS_fn ?_ | refine M.eqNilS_fs ?_ | refine M.lss_t (by omega) ?_ | refine M.lss_f (by omega) ?_ | refine M.leq_t (by omega) ?_ | refine M.leq_f (by omega) ?_ | refine M.gtr_t (by omega) ?_ | refine M.gtr_f (by omega) ?_ | refine M.geq_t (by omega) ?_ | refine M.geq_f (by omega) ?_ | refine M.eql_t (by omega) ?_ | refine M.eql_f (by omega) ?_ | refine M.neq_t (by omega) ?_ | refine M.neq_f (by omega) ?_ | refine M.add_i (by omega) (by omega) ?_ | refine M.sub_i (by omega) (by omega) ?_ | refine M.load_i (by assumption) ?_ | refine M.loadB_i (by assumption) rfl ?_ | refine M.st_i (by assumption) ?_ | refine M.stB_i (by assumption) rfl ?_ | refine M.gs_ff ?_ | refine M.gs_tt ?_ | refine M.gs_ft ?_ | refine M.gs_tf ?_ | refine M.stAll_i (by assumption) rfl ?_))
        exact hK (i + 1) _ _ (by omega) ⟨vo, us', by simp, by omega, ho, k5⟩
      · intro K4 hK4
        refine M.idxLL_i hb2 rfl (by omega) (c := c) (by simpa using hc) (fun bb oo x hcell hx => ?_)
        (repeat (first | refine M.len_i ?_ | refine M.nilCheck_i ?_ | refine M.field_i ?_ | refine M.draw_i ?_ | refine M.cap_i ?_ | refine M.gd_tt ?_ | refine M.gd_ff ?_ | refine M.gd_ft ?_ | refine M.gd_tf ?_ | refine M.gd_u ?_ | refine M.pick_t ?_ | refine M.pick_f ?_ | refine M.not_t ?_ | refine M.not_f ?_ | refine M.cond_t ?_ | refine M.cond_f ?_ | refine M.eqNilP_tn ?_ | refine M.eqNilP_ts ?_ | refine M.eqNilP_fn ?_ | refine M.eqNilP_fs ?_ | refine M.eqNilS_tn ?_ | refine M.eqNilS_ts ?_ | refine M.eqNilS_fn ?_ | refine M.eqNilS_fs ?_ | refine M.lss_t (by omega) ?_ | refine M.lss_f (by omega) ?_ | refine M.leq_t (by omega) ?_ | refine M.leq_f (by omega) ?_ | refine M.gtr_t (by omega) ?_ | refine M.gtr_f (by omega) ?_ | refine M.geq_t (by omega) ?_ | refine M.geq_f (by omega) ?_ | refine M.eql_t (by omega) ?_ | refine M.eql_f (by omega) ?_ | refine M.neq_t (by omega) ?_ | refine M.neq_f (by omega) ?_ | refine M.add_i (by omega) (by omega) ?_ | refine M.sub_i (by omega) (by omega) ?_ | refine M.load_i (by assumption) ?_ | refine M.loadB_i (by assumption) rfl ?_ | refine M.st_i (by assumption) ?_ | refine M.stB_i (by assumption) rfl ?_ | refine M.gs_ff ?_ | refine M.gs_tt ?_ | refine M.gs_ft ?_ | refine M.gs_tf ?_ | refine M.stAll_i (by assumption) rfl ?_))
        refine M.share_j (fun vals w' => vals = [vb (goneB all i c all.length)] ∧ Keep w2 w' No) ?_ ?_
        · rintro vals w3 ⟨rfl, k3⟩ _
          simp only [List.getD_cons_zero, List.getD_cons_succ]
          refine M.not_i ?_
          have k23 := k2.trans k3 (fun _ _ h => h)
          cases hg : goneB all i c all.length with
          | true =>
            rw [hg] at e1
            simp only [if_true, List.append_nil] at e1
            (repeat (first | refine M.len_i ?_ | refine M.nilCheck_i ?_ | refine M.field_i ?_ | refine M.draw_i ?_ | refine M.cap_i ?_ | refine M.gd_tt ?_ | refine M.gd_ff ?_ | refine M.gd_ft ?_ | refine M.gd_tf ?_ | refine M.gd_u ?_ | refine M.pick_t ?_ | refine M.pick_f ?_ | refine M.not_t ?_ | refine M.not_f ?_ | refine M.cond_t ?_ | refine M.cond_f ?_ | refine M.eqNilP_tn ?_ | refine M.eqNilP_ts ?_ | refine M.eqNilP_fn ?_ | refine M.eqNilP_fs ?_ | refine M.eqNilS_tn ?_ | refine M.eqNilS_ts ?_ | refine M.eqNilS_fn ?_ | refine M.eqNilS_fs ?_ | refine M.lss_t (by omega) ?_ | refine M.lss_f (by omega) ?_ | refine M.leq_t (by omega) ?_ | refine M.leq_f (by omega) ?_ | refine M.gtr_t (by omega) ?_ | refine M.gtr_f (by omega) ?_ | refine M.geq_t (by omega) ?_ | refine M.geq_f (by omega) ?_ | refine M.eql_t (by omega) ?_ | refine M.eql_f (by omega) ?_ | refine M.neq_t (by omega) ?_ | refine M.neq_f (by omega) ?_ | refine M.add_i (by omega) (by omega) ?_ | refine M.sub_i (by omega) (by omega) ?_ | refine M.load_i (by assumption) ?_ | refine M.loadB_i (by assumption) rfl ?_ | refine M.st_i (by assumption) ?_ | refine M.stB_i (by assumption) rfl ?_ | refine M.gs_ff ?_ | refine M.gs_tt ?_ | refine M.gs_ft ?_ | refine M.gs_tf ?_ | refine M.stAll_i (by assumption) rfl ?_))
            exact hK4 _ _ ⟨vo, us2, rfl, e1 ▸ ho2.keep k3, k23⟩
          | false =>
            rw [hg] at e1
            simp only [Bool.false_eq_true, if_false] at e1
            (repeat (first | refine M.len_i ?_ | refine M.nilCheck_i ?_ | refine M.field_i ?_ | refine M.draw_i ?_ | refine M.cap_i ?_ | refine M.gd_tt ?_ | refine M.gd_ff ?_ | refine M.gd_ft ?_ | refine M.gd_tf ?_ | refine M.gd_u ?_ | refine M.pick_t ?_ | refine M.pick_f ?_ | refine M.not_t ?_ | refine M.not_f ?_ | refine M.cond_t ?_ | refine M.cond_f ?_ | refine M.eqNilP_tn ?_ | refine M.eqNilP_ts ?_ | refine M.eqNilP_fn ?_ | refine M.eqNilP_fs ?_ | refine M.eqNilS_tn ?_ | refine M.eqNilS_ts ?_ | refine M.eqNilS_fn ?_ | refine M.eqNilS_fs ?_ | refine M.lss_t (by omega) ?_ | refine M.lss_f (by omega) ?_ | refine M.leq_t (by omega) ?_ | refine M.leq_f (by omega) ?_ | refine M.gtr_t (by omega) ?_ | refine M.gtr_f (by omega) ?_ | refine M.geq_t (by omega) ?_ | refine M.geq_f (by omega) ?_ | refine M.eql_t (by omega) ?_ | refine M.eql_f (by omega) ?_ | refine M.neq_t (by omega) ?_ | refine M.neq_f (by omega) ?_ | refine M.add_i (by omega) (by omega) ?_ | refine M.sub_i (by omega) (by omega) ?_ | refine M.load_i (by assumption) ?_ | refine M.loadB_i (by assumption) rfl ?_ | refine M.st_i (by assumption) ?_ | refine M.stB_i (by assumption) rfl ?_ | refine M.gs_ff ?_ | refine M.gs_tt ?_ | refine M.gs_ft ?_ | refine M.gs_tf ?_ | refine M.stAll_i (by assumption) rfl ?_))
            refine M.appendOL_i (ho2.keep k3) ((hx.keep k3 (fun _ _ _ h => h)).mono (fun b hb h h2 => by have := (ho2.lt h2).1; omega)) (by have := k3.size; omega) (by omega) (fun v7 us7 w7 h7 k7 => ?_)
            exact hK4 _ _ ⟨v7, us7, rfl, e1 ▸ h7, k23.trans k7 (fun b hb h => by omega)⟩
        · intro K5 hK5
          refine M.loop_i (σ := Nat) (fun j vals w' => vals = [.bool false, vi j] ∧ j ≤ all.length ∧ goneB all i c j = false ∧ Keep w2 w' No) (fun j => all.length - j) 0
            ⟨rfl, by omega, by simp [goneB], Keep.refl _ _⟩ ?_
          rintro j vals w3 K6 ⟨rfl, hj, hg, k3⟩ hK6 _
          simp only [List.getD_cons_zero, List.getD_cons_succ]
          have hb3 := hb2.keep k3 (fun _ _ _ h => h)
          have hx3 := hx.keep k3 (fun _ _ _ h => h)
          by_cases hjl : j < all.length
          · obtain ⟨d, hd⟩ : ∃ d, all[j]? = some d := ⟨_, List.getElem?_eq_getElem hjl⟩
            have hdm := List.mem_of_getElem? hd
            have e2 := goneB_succ (i := i) (c := c) hd
            rw [hg, Bool.false_or] at e2
            (repeat (first | refine M.len_i ?_ | refine M.nilCheck_i ?_ | refine M.field_i ?_ | refine M.draw_i ?_ | refine M.cap_i ?_ | refine M.gd_tt ?_ | refine M.gd_ff ?_ | refine M.gd_ft ?_ | refine M.gd_tf ?_ | refine M.gd_u ?_ | refine M.pick_t ?_ | refine M.pick_f ?_ | refine M.not_t ?_ | refine M.not_f ?_ | refine M.cond_t ?_ | refine M.cond_f ?_ | refine M.eqNilP_tn ?_ | refine M.eqNilP_ts ?_ | refine M.eqNilP_fn ?_ | refine M.eqNilP_fs ?_ | refine M.eqNilS_tn ?_ | refine M.eqNilS_ts ?_ | refine M.eqNilS_fn ?_ | refine M.eqNilS_fs ?_ | refine M.lss_t (by omega) ?_ | refine M.lss_f (by omega) ?_ | refine M.leq_t (by omega) ?_ | refine M.leq_f (by omega) ?_ | refine M.gtr_t (by omega) ?_ | refine M.gtr_f (by omega) ?_ | refine M.geq_t (by omega) ?_ | refine M.geq_f (by omega) ?_ | refine M.eql_t (by omega) ?_ | refine M.eql_f (by omega) ?_ | refine M.neq_t (by omega) ?_ | refine M.neq_f (by omega) ?_ | refine M.add_i (by omega) (by omega) ?_ | refine M.sub_i (by omega) (by omega) ?_ | refine M.load_i (by assumption) ?_ | refine M.loadB_i (by assumption) rfl ?_ | refine M.st_i (by assumption) ?_ | refine M.stB_i (by assumption) rfl ?_ | refine M.gs_ff ?_ | refine M.gs_tt ?_ | refine M.gs_ft ?_ | refine M.gs_tf ?_ | refine M.stAll_i (by assumption) rfl ?_))
            refine M.idxLL_i hb3 rfl (by omega) (c := d) (by simpa using hd) (fun b9 o9 y hcell9 hy => ?_)
            (repeat (first | refine M.len_i ?_ | refine M.nilCheck_i ?_ | refine M.field_i ?_ | refine M.draw_i ?_ | refine M.cap_i ?_ | refine M.gd_tt ?_ | refine M.gd_ff ?_ | refine M.gd_ft ?_ | refine M.gd_tf ?_ | refine M.gd_u ?_ | refine M.pick_t ?_ | refine M.pick_f ?_ | refine M.not_t ?_ | refine M.not_f ?_ | refine M.cond_t ?_ | refine M.cond_f ?_ | refine M.eqNilP_tn ?_ | refine M.eqNilP_ts ?_ | refine M.eqNilP_fn ?_ | refine M.eqNilP_fs ?_ | refine M.eqNilS_tn ?_ | refine M.eqNilS_ts ?_ | refine M.eqNilS_fn ?_ | refine M.eqNilS_fs ?_ | refine M.lss_t (by omega) ?_ | refine M.lss_f (by omega) ?_ | refine M.leq_t (by omega) ?_ | refine M.leq_f (by omega) ?_ | refine M.gtr_t (by omega) ?_ | refine M.gtr_f (by omega) ?_ | refine M.geq_t (by omega) ?_ | refine M.geq_f (by omega) ?_ | refine M.eql_t (by omega) ?_ | refine M.eql_f (by omega) ?_ | refine M.neq_t (by omega) ?_ | refine M.neq_f (by omega) ?_ | refine M.add_i (by omega) (by omega) ?_ | refine M.sub_i (by omega) (by omega) ?_ | refine M.load_i (by assumption) ?_ | refine M.loadB_i (by assumption) rfl ?_ | refine M.st_i (by assumption) ?_ | refine M.stB_i (by assumption) rfl ?_ | refine M.gs_ff ?_ | refine M.gs_tt ?_ | refine M.gs_ft ?_ | refine M.gs_tf ?_ | refine M.stAll_i (by assumption) rfl ?_))
            refine M.lss_i ?_
            rw [show decide (((j : Nat) : Int) < ((i : Nat) : Int)) = decide (j < i) by by_cases h : j < i <;> simp [h]]
            refine M.call_i (more_ret hy hx3 (hfew d hdm) (hfew c hcm) (decide (j < i))) ?_; rintro _ w4 ⟨rfl, k4⟩
            have k34 := k3.trans k4 (fun _ _ h => h)
            cases hm : moreB d c (decide (j < i)) with
            | true =>
              rw [hm] at e2
              (repeat (first | refine M.len_i ?_ | refine M.nilCheck_i ?_ | refine M.field_i ?_ | refine M.draw_i ?_ | refine M.cap_i ?_ | refine M.gd_tt ?_ | refine M.gd_ff ?_ | refine M.gd_ft ?_ | refine M.gd_tf ?_ | refine M.gd_u ?_ | refine M.pick_t ?_ | refine M.pick_f ?_ | refine M.not_t ?_ | refine M.not_f ?_ | refine M.cond_t ?_ | refine M.cond_f ?_ | refine M.eqNilP_tn ?_ | refine M.eqNilP_ts ?_ | refine M.eqNilP_fn ?_ | refine M.eqNilP_fs ?_ | refine M.eqNilS_tn ?_ | refine M.eqNilS_ts ?_ | refine M.eqNilS_fn ?_ | refine M.eqNilS_fs ?_ | refine M.lss_t (by omega) ?_ | refine M.lss_f (by omega) ?_ | refine M.leq_t (by omega) ?_ | refine M.leq_f (by omega) ?_ | refine M.gtr_t (by omega) ?_ | refine M.gtr_f (by omega) ?_ | refine M.geq_t (by omega) ?_ | refine M.geq_f (by omega) ?_ | refine M.eql_t (by omega) ?_ | refine M.eql_f (by omega) ?_ | refine M.neq_t (by omega) ?_ | refine M.neq_f (by omega) ?_ | refine M.add_i (by omega) (by omega) ?_ | refine M.sub_i (by omega) (by omega) ?_ | refine M.load_i (by assumption) ?_ | refine M.loadB_i (by assumption) rfl ?_ | refine M.st_i (by assumption) ?_ | refine M.stB_i (by assumption) rfl ?_ | refine M.gs_ff ?_ | refine M.gs_tt ?_ | refine M.gs_ft ?_ | refine M.gs_tf ?_ | refine M.stAll_i (by assumption) rfl ?_))
              exact hK5 _ _ ⟨by rw [goneB_stop e2 (by omega)], k34⟩
            | false =>
              rw [hm] at e2
              (repeat (first | refine M.len_i ?_ | refine M.nilCheck_i ?_ | refine M.field_i ?_ | refine M.draw_i ?_ | refine M.cap_i ?_ | refine M.gd_tt ?_ | refine M.gd_ff ?_ | refine M.gd_ft ?_ | refine M.gd_tf ?_ | refine M.gd_u ?_ | refine M.pick_t ?_ | refine M.pick_f ?_ | refine M.not_t ?_ | refine M.not_f ?_ | refine M.cond_t ?_ | refine M.cond_f ?_ | refine M.eqNilP_tn ?_ | refine M.eqNilP_ts ?_ | refine M.eqNilP_fn ?_ | refine M.eqNilP_fs ?_ | refine M.eqNilS_tn ?_ | refine M.eqNilS_ts ?_ | refine M.eqNilS_fn ?_ | refine M.eqNilS_fs ?_ | refine M.lss_t (by omega) ?_ | refine M.lss_f (by omega) ?_ | refine M.leq_t (by omega) ?_ | refine M.leq_f (by omega) ?_ | refine M.gtr_t (by omega) ?_ | refine M.gtr_f (by omega) ?_ | refine M.geq_t (by omega) ?_ | refine M.geq_f (by omega) ?_ | refine M.eql_t (by omega) ?_ | refine M.eql_f (by omega) ?_ | refine M.neq_t (by omega) ?_ | refine M.neq_f (by omega) ?_ | refine M.add_i (by omega) (by omega) ?_ | refine M.sub_i (by omega) (by omega) ?_ | refine M.load_i (by assumption) ?_ | refine M.loadB_i (by assumption) rfl ?_ | refine M.st_i (by assumption) ?_ | refine M.stB_i (by assumption) rfl ?_ | refine M.gs_ff ?_ | refine M.gs_tt ?_ | refine M.gs_ft ?_ | refine M.gs_tf ?_ | refine M.stAll_i (by assumption) rfl ?_))
              exact hK6 (j + 1) _ _ (by omega) ⟨by simp, by omega, e2, k34⟩
          · (repeat (first | refine M.len_i ?_ | refine M.nilCheck_i ?_ | refine M.field_i ?_ | refine M.draw_i ?_ | refine M.cap_i ?_ | refine M.gd_tt ?_ | refine M.gd_ff ?_ | refine M.gd_ft ?_ | refine M.gd_tf ?_ | refine M.gd_u ?_ | refine M.pick_t ?_ | refine M.pick_f ?_ | refine M.not_t ?_ | refine M.not_f ?_ | refine M.cond_t ?_ | refine M.cond_f ?_ | refine M.eqNilP_tn ?_ | refine M.eqNilP_ts ?_ | refine M.eqNilP_fn ?_ | refine M.eqNilP_fs ?_ | refine M.eqNilS_tn ?_ | refine M.eqNilS_ts ?_ | refine M.eqNilS_fn ?_ | refine M.eqNilS_fs ?_ | refine M.lss_t (by omega) ?_ | refine M.lss_f (by omega) ?_ | refine M.leq_t (by omega) ?_ | refine M.leq_f (by omega) ?_ | refine M.gtr_t (by omega) ?_ | refine M.gtr_f (by omega) ?_ | refine M.geq_t (by omega) ?_ | refine M.geq_f (by omega) ?_ | refine M.eql_t (by omega) ?_ | refine M.eql_f (by omega) ?_ | refine M.neq_t (by omega) ?_ | refine M.neq_f (by omega) ?_ | refine M.add_i (by omega) (by omega) ?_ | refine M.sub_i (by omega) (by omega) ?_ | refine M.load_i (by assumption) ?_ | refine M.loadB_i (by assumption) rfl ?_ | refine M.st_i (by assumption) ?_ | refine M.stB_i (by assumption) rfl ?_ | refine M.gs_ff ?_ | refine M.gs_tt ?_ | refine M.gs_ft ?_ | refine M.gs_tf ?_ | refine M.stAll_i (by assumption) rfl ?_))
            have : j = all.length := by omega
            subst this
            exact hK5 _ _ ⟨by rw [hg], k3⟩
    · (repeat (first | refine M.len_i ?_ | refine M.nilCheck_i ?_ | refine M.field_i ?_ | refine M.draw_i ?_ | refine M.cap_i ?_ | refine M.gd_tt ?_ | refine M.gd_ff ?_ | refine M.gd_ft ?_ | refine M.gd_tf ?_ | refine M.gd_u ?_ | refine M.pick_t ?_ | refine M.pick_f ?_ | refine M.not_t ?_ | refine M.not_f ?_ | refine M.cond_t ?_ | refine M.cond_f ?_ | refine M.eqNilP_tn ?_ | refine M.eqNilP_ts ?_ | refine M.eqNilP_fn ?_ | refine M.eqNilP_fs ?_ | refine M.eqNilS_tn ?_ | refine M.eqNilS_ts ?_ | refine M.eqNilS_fn ?_ | refine M.eqNilS_fs ?_ | refine M.lss_t (by omega) ?_ | refine M.lss_f (by omega) ?_ | refine M.leq_t (by omega) ?_ | refine M.leq_f (by omega) ?_ | refine M.gtr_t (by omega) ?_ | refine M.gtr_f (by omega) ?_ | refine M.geq_t (by omega) ?_ | refine M.geq_f (by omega) ?_ | refine M.eql_t (by omega) ?_ | refine M.eql_f (by omega) ?_ | refine M.neq_t (by omega) ?_ | refine M.neq_f (by omega) ?_ | refine M.add_i (by omega) (by omega) ?_ | refine M.sub_i (by omega) (by omega) ?_ | refine M.load_i (by assumption) ?_ | refine M.loadB_i (by assumption) rfl ?_ | refine M.st_i (by assumption) ?_ | refine M.stB_i (by assumption) rfl ?_ | refine M.gs_ff ?_ | refine M.gs_tt ?_ | refine M.gs_ft ?_ | refine M.gs_tf ?_ | refine M.stAll_i (by assumption) rfl ?_))
      have : i = all.length := by omega
      subst this
      exact ⟨ho2.ll, k1.trans k2 (fun _ _ h => h)⟩
end Go.Proofs.Ytfkbacoiocniaaa
