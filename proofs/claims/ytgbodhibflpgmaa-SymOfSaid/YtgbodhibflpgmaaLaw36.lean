import Derived.Test.YtgbodhibflpgmaaLaw36p
namespace Go.Proofs.Ytgbodhibflpgmaa
open Go.Mw Go.Maps Go.MapKept
set_option linter.unusedVariables false
set_option linter.unusedSimpArgs false
set_option maxRecDepth 100000
attribute [local irreducible] M.val M.unit M.next M.pick M.new M.nilCheck M.load1 M.loadA M.store M.fieldAddr M.indexSl M.indexArr M.slice M.makeSlice M.buildSlice M.len M.lenS M.cap M.append M.extract M.conv M.not M.neg M.bin M.shift M.eqB M.eqNil M.call M.callv M.gd M.share M.cond M.loop M.draw pureW readW Ret
/-! breakwater/breakwaterlaw36.SymStarts: function 3 -/
def sh3 (x0 x1 x2 : Value) (R : Kt) (w : World) : Prop :=
  M.len x0 (fun t17 w =>
  M.bin .gtr t17 (Value.int IntKind.i64 60) (fun t18 w =>
  M.gd t18 false (fun k w => k x2 w) (fun t20 w =>
  M.gd t18 false (fun k w => M.len t20 k w) (fun t21 w =>
  M.gd t18 false (fun k w => M.bin .gtr t21 (Value.int IntKind.i64 300) k w) (fun t22 w =>
  M.pick t18 (Value.bool true) t22 (fun t23 w =>
  M.cond t23
  (M.call Try.prog 11 #[] (fun t24 w =>
  R t24 w) w)
  (M.call Try.prog 12 #[(Value.int IntKind.i64 100)] (fun t25 w =>
  M.eqNil 0 false t25 (fun t27 w =>
  M.cond t27
  (R (Value.bool false) w)
  (M.call Try.prog 13 #[t25, x0] (fun t31 w =>
  M.extract 0 t31 (fun t32 w =>
  M.extract 1 t31 (fun t33 w =>
  M.new 29 #[.slice none 0 0, .slice none 0 0, .int .i64 0] (fun t8 w =>
  M.store 3 t8 t32 (fun _ w =>
  M.loadA 3 t8 (fun t36 w =>
  M.call Try.prog 14 #[t25, t36, x1, (Value.slice none 0 0)] (fun t38 w =>
  M.extract 0 t38 (fun t39 w =>
  M.extract 1 t38 (fun t40 w =>
  M.new 35 #[.int .i64 0, .int .i64 0, .int .i64 0, .int .i64 0, .int .i64 0, .int .i64 0, .int .i64 0, .int .i64 0, .slice none 0 0, .int .i64 0, .int .i64 0, .int .i64 0, .int .i64 0, .int .i64 0, .int .i64 0, .slice none 0 0, .slice none 0 0, .int .i64 0, .slice none 0 0] (fun t10 w =>
  M.store 19 t10 t39 (fun _ w =>
  M.loadA 19 t10 (fun t43 w =>
  M.call Try.prog 15 #[t25, t43, x2] (fun t45 w =>
  M.extract 0 t45 (fun t46 w =>
  M.extract 1 t45 (fun t47 w =>
  M.extract 2 t45 (fun t48 w =>
  M.new 44 #[.int .u64 0, .int .u64 0, .int .u64 0, .int .u64 0, .int .u64 0, .int .u64 0, .int .u64 0, .int .u64 0, .slice none 0 0, .int .i64 0, .int .i64 0, .int .i64 0, .int .i64 0, .int .i64 0, .int .u64 0, .slice none 0 0, .slice none 0 0, .int .i64 0] (fun t12 w =>
  M.store 18 t12 t46 (fun _ w =>
  M.call Try.prog 17 #[x0] (fun t50 w =>
  M.call Try.prog 16 #[t50, x1] (fun t52 w =>
  M.new 44 #[.int .u64 0, .int .u64 0, .int .u64 0, .int .u64 0, .int .u64 0, .int .u64 0, .int .u64 0, .int .u64 0, .slice none 0 0, .int .i64 0, .int .i64 0, .int .i64 0, .int .i64 0, .int .i64 0, .int .u64 0, .slice none 0 0, .slice none 0 0, .int .i64 0] (fun t15 w =>
  M.store 18 t15 t52 (fun _ w =>
  M.bin .eql t33 (Value.int IntKind.i64 0) (fun t54 w =>
  M.gd t54 true (fun k w => k t40 w) (fun t56 w =>
  M.gd t54 true (fun k w => M.bin .eql t56 (Value.int IntKind.i64 0) k w) (fun t57 w =>
  M.pick t54 t57 (Value.bool false) (fun t58 w =>
  M.gd t58 true (fun k w => k t48 w) (fun t60 w =>
  M.gd t58 true (fun k w => M.bin .eql t60 (Value.int IntKind.i64 0) k w) (fun t61 w =>
  M.pick t58 t61 (Value.bool false) (fun t62 w =>
  M.gd t62 true (fun k w => k t47 w) (fun t64 w =>
  M.pick t62 t64 (Value.bool false) (fun t65 w =>
  M.gd t65 true (fun k w => M.loadA 18 t12 k w) (fun t67 w =>
  M.gd t65 true (fun k w => M.loadA 18 t15 k w) (fun t68 w =>
  M.gd t65 true (fun k w => M.call Try.prog 18 #[t67, t68] k w) (fun t69 w =>
  M.pick t65 t69 (Value.bool false) (fun t70 w =>
  M.gd t70 true (fun k w => M.loadA 18 t12 k w) (fun t72 w =>
  M.gd t70 true (fun k w => M.call Try.prog 19 #[t72] k w) (fun t73 w =>
  M.gd t70 true (fun k w => M.bin .eql t73 (Value.int IntKind.i64 1) k w) (fun t74 w =>
  M.pick t70 t74 (Value.bool false) (fun t75 w =>
  M.gd t75 true (fun k w => M.call Try.prog 11 #[] k w) (fun t77 w =>
  M.pick t75 t77 (Value.bool false) (fun t78 w =>
  R t78 w) w) w) w) w) w) w) w) w) w) w) w) w) w) w) w) w) w) w) w) w) w) w) w) w) w) w) w) w) w) w) w) w) w) w) w) w) w) w) w) w) w)) w) w)) w) w) w) w) w) w
theorem ok3 (x0 x1 x2 : Value) (R : Kt) (w : World) (h : sh3 x0 x1 x2 R w) : Ret Try.prog 3 #[x0, x1, x2] w R :=
  ret_mk <| calls_of_comp mixed (c := Try.f3.body.getD .skip) (args := [x0, x1, x2]) (rs := [(ResultVar.tmp 6)]) (Ann.seq Ann.text (Ann.seq (Ann.seq Ann.text (Ann.cond (Ann.seq Ann.text Ann.leaf) Ann.leaf)) (Ann.seq Ann.text (Ann.seq (Ann.seq Ann.text (Ann.cond (Ann.seq Ann.text Ann.leaf) Ann.leaf)) (Ann.seq Ann.text (Ann.seq Ann.text (Ann.seq Ann.text (Ann.seq Ann.text (Ann.seq Ann.text Ann.leaf)))))))))
    Try.func3 (by kernel_rfl) (by kernel_rfl)
    (Eq.mp (by kernel_rfl) h)
/-! breakwater/breakwaterlaw36.awake: function 11 -/
def sh11 (R : Kt) (w : World) : Prop :=
  M.call Try.prog 12 #[(Value.int IntKind.i64 9)] (fun t20 w =>
  M.eqNil 0 false t20 (fun t22 w =>
  M.cond t22
  (R (Value.bool false) w)
  (M.buildSlice 38 1 #[.int .u64 0] 2 [(0, (Value.int IntKind.u64 5)), (1, (Value.int IntKind.u64 6))] (fun t25 w =>
  M.call Try.prog 13 #[t20, t25] (fun t26 w =>
  M.extract 0 t26 (fun t27 w =>
  M.extract 1 t26 (fun t28 w =>
  M.new 29 #[.slice none 0 0, .slice none 0 0, .int .i64 0] (fun t2 w =>
  M.store 3 t2 t27 (fun _ w =>
  M.call Try.prog 50 #[t20, (Value.int IntKind.i64 1), (Value.int IntKind.i64 0)] (fun t31 w =>
  M.extract 0 t31 (fun t32 w =>
  M.extract 1 t31 (fun t33 w =>
  M.loadA 3 t2 (fun t36 w =>
  M.buildSlice 3 1 #[.int .i64 0] 1 [(0, t32)] (fun t38 w =>
  M.call Try.prog 14 #[t20, t36, (Value.int IntKind.i64 2), t38] (fun t39 w =>
  M.extract 0 t39 (fun t40 w =>
  M.extract 1 t39 (fun t41 w =>
  M.new 35 #[.int .i64 0, .int .i64 0, .int .i64 0, .int .i64 0, .int .i64 0, .int .i64 0, .int .i64 0, .int .i64 0, .slice none 0 0, .int .i64 0, .int .i64 0, .int .i64 0, .int .i64 0, .int .i64 0, .int .i64 0, .slice none 0 0, .slice none 0 0, .int .i64 0, .slice none 0 0] (fun t6 w =>
  M.store 19 t6 t40 (fun _ w =>
  M.loadA 19 t6 (fun t44 w =>
  M.buildSlice 38 1 #[.int .u64 0] 1 [(0, (Value.int IntKind.u64 1))] (fun t45 w =>
  M.call Try.prog 15 #[t20, t44, t45] (fun t46 w =>
  M.extract 0 t46 (fun t47 w =>
  M.extract 1 t46 (fun t48 w =>
  M.extract 2 t46 (fun t49 w =>
  M.new 44 #[.int .u64 0, .int .u64 0, .int .u64 0, .int .u64 0, .int .u64 0, .int .u64 0, .int .u64 0, .int .u64 0, .slice none 0 0, .int .i64 0, .int .i64 0, .int .i64 0, .int .i64 0, .int .i64 0, .int .u64 0, .slice none 0 0, .slice none 0 0, .int .i64 0] (fun t8 w =>
  M.store 18 t8 t47 (fun _ w =>
  M.loadA 19 t6 (fun t52 w =>
  M.call Try.prog 15 #[t20, t52, (Value.slice none 0 0)] (fun t53 w =>
  M.extract 0 t53 (fun t54 w =>
  M.extract 1 t53 (fun t55 w =>
  M.extract 2 t53 (fun t56 w =>
  M.new 44 #[.int .u64 0, .int .u64 0, .int .u64 0, .int .u64 0, .int .u64 0, .int .u64 0, .int .u64 0, .int .u64 0, .slice none 0 0, .int .i64 0, .int .i64 0, .int .i64 0, .int .i64 0, .int .i64 0, .int .u64 0, .slice none 0 0, .slice none 0 0, .int .i64 0] (fun t11 w =>
  M.store 18 t11 t54 (fun _ w =>
  M.loadA 3 t2 (fun t59 w =>
  M.call Try.prog 23 #[t20, t59, (Value.slice none 0 0)] (fun t60 w =>
  M.extract 0 t60 (fun t61 w =>
  M.extract 1 t60 (fun t62 w =>
  M.new 42 #[.slice none 0 0, .slice none 0 0, .int .i64 0] (fun t14 w =>
  M.store 3 t14 t61 (fun _ w =>
  M.buildSlice 3 1 #[.int .i64 0] 1 [(0, (Value.int IntKind.i64 77))] (fun t65 w =>
  pureW Try.prog (Instr.build 29 #[(0, t65)]) (fun t66 w =>
  M.call Try.prog 23 #[t20, t66, (Value.slice none 0 0)] (fun t67 w =>
  M.extract 0 t67 (fun t68 w =>
  M.extract 1 t67 (fun t69 w =>
  M.new 42 #[.slice none 0 0, .slice none 0 0, .int .i64 0] (fun t16 w =>
  M.store 3 t16 t68 (fun _ w =>
  M.call Try.prog 12 #[(Value.int IntKind.i64 0)] (fun t71 w =>
  M.buildSlice 38 1 #[.int .u64 0] 1 [(0, (Value.int IntKind.u64 5))] (fun t72 w =>
  M.call Try.prog 13 #[t71, t72] (fun t73 w =>
  M.extract 0 t73 (fun t74 w =>
  M.extract 1 t73 (fun t75 w =>
  M.new 29 #[.slice none 0 0, .slice none 0 0, .int .i64 0] (fun t18 w =>
  M.store 3 t18 t74 (fun _ w =>
  M.bin .eql t28 (Value.int IntKind.i64 0) (fun t77 w =>
  M.gd t77 true (fun k w => k t41 w) (fun t79 w =>
  M.gd t77 true (fun k w => M.bin .eql t79 (Value.int IntKind.i64 0) k w) (fun t80 w =>
  M.pick t77 t80 (Value.bool false) (fun t81 w =>
  M.gd t81 true (fun k w => M.fieldAddr 14 t6 k w) (fun t83 w =>
  M.gd t81 true (fun k w => M.load1 t83 k w) (fun t84 w =>
  M.gd t81 true (fun k w => M.bin .eql t84 (Value.int IntKind.i64 (-1)) k w) (fun t85 w =>
  M.pick t81 t85 (Value.bool false) (fun t86 w =>
  M.gd t86 true (fun k w => k t48 w) (fun t88 w =>
  M.pick t86 t88 (Value.bool false) (fun t89 w =>
  M.gd t89 true (fun k w => k t55 w) (fun t91 w =>
  M.gd t89 true (fun k w => M.not t91 k w) (fun t92 w =>
  M.pick t89 t92 (Value.bool false) (fun t93 w =>
  M.gd t93 true (fun k w => k t49 w) (fun t95 w =>
  M.gd t93 true (fun k w => M.bin .eql t95 (Value.int IntKind.i64 0) k w) (fun t96 w =>
  M.pick t93 t96 (Value.bool false) (fun t97 w =>
  M.gd t97 true (fun k w => M.fieldAddr 8 t8 k w) (fun t99 w =>
  M.gd t97 true (fun k w => M.load1 t99 k w) (fun t100 w =>
  M.gd t97 true (fun k w => M.len t100 k w) (fun t101 w =>
  M.gd t97 true (fun k w => M.bin .eql t101 (Value.int IntKind.i64 2) k w) (fun t102 w =>
  M.pick t97 t102 (Value.bool false) (fun t103 w =>
  M.gd t103 true (fun k w => M.fieldAddr 15 t8 k w) (fun t105 w =>
  M.gd t103 true (fun k w => M.fieldAddr 0 t105 k w) (fun t106 w =>
  M.gd t103 true (fun k w => M.load1 t106 k w) (fun t107 w =>
  M.gd t103 true (fun k w => M.buildSlice 38 1 #[.int .u64 0] 2 [(0, (Value.int IntKind.u64 5)), (1, (Value.int IntKind.u64 6))] k w) (fun t108 w =>
  M.gd t103 true (fun k w => M.call Try.prog 48 #[t107, t108] k w) (fun t109 w =>
  M.pick t103 t109 (Value.bool false) (fun t110 w =>
  M.gd t110 true (fun k w => M.fieldAddr 0 t14 k w) (fun t112 w =>
  M.gd t110 true (fun k w => M.load1 t112 k w) (fun t113 w =>
  M.gd t110 true (fun k w => M.buildSlice 38 1 #[.int .u64 0] 2 [(0, (Value.int IntKind.u64 5)), (1, (Value.int IntKind.u64 6))] k w) (fun t114 w =>
  M.gd t110 true (fun k w => M.call Try.prog 48 #[t113, t114] k w) (fun t115 w =>
  M.pick t110 t115 (Value.bool false) (fun t116 w =>
  M.gd t116 true (fun k w => k t62 w) (fun t118 w =>
  M.gd t116 true (fun k w => M.bin .eql t118 (Value.int IntKind.i64 0) k w) (fun t119 w =>
  M.pick t116 t119 (Value.bool false) (fun t120 w =>
  M.gd t120 true (fun k w => k t69 w) (fun t122 w =>
  M.gd t120 true (fun k w => M.bin .eql t122 (Value.int IntKind.i64 11) k w) (fun t123 w =>
  M.pick t120 t123 (Value.bool false) (fun t124 w =>
  M.gd t124 true (fun k w => k t75 w) (fun t126 w =>
  M.gd t124 true (fun k w => M.bin .eql t126 (Value.int IntKind.i64 8) k w) (fun t127 w =>
  M.pick t124 t127 (Value.bool false) (fun t128 w =>
  R t128 w) w) w) w) w) w) w) w) w) w) w) w) w) w) w) w) w) w) w) w) w) w) w) w) w) w) w) w) w) w) w) w) w) w) w) w) w) w) w) w) w) w) w) w) w) w) w) w) w) w) w) w) w) w) w) w) w) w) w) w) w) w) w) w) w) w) w) w) w) w) w) w) w) w) w) w) w) w) w) w) w) w) w) w) w) w) w) w) w) w) w) w) w)) w) w
theorem ok11 (R : Kt) (w : World) (h : sh11 R w) : Ret Try.prog 11 #[] w R :=
  ret_mk <| calls_of_comp mixed (c := Try.f11.body.getD .skip) (args := []) (rs := [(ResultVar.tmp 0)]) (Ann.seq Ann.text (Ann.seq Ann.text (Ann.seq (Ann.seq Ann.text (Ann.cond (Ann.seq Ann.text Ann.leaf) Ann.leaf)) (Ann.seq Ann.text (Ann.seq Ann.text (Ann.seq Ann.text (Ann.seq Ann.text (Ann.seq Ann.text (Ann.seq Ann.text (Ann.seq Ann.text (Ann.seq Ann.text (Ann.seq Ann.text Ann.leaf))))))))))))
    Try.func11 (by kernel_rfl) (by kernel_rfl)
    (Eq.mp (by kernel_rfl) h)

abbrev zSy : List Value := [vi 0, vi 0, vi 0, vi 0, vi 0, vi 0, vi 0, vi 0, .slice none 0 0, vi 0, vi 0, vi 0, vi 0, vi 0, vi 0, .slice none 0 0, .slice none 0 0, vi 0, .slice none 0 0]
abbrev zDv : List Value := [.slice none 0 0, .slice none 0 0, vi 0]
theorem st_vals_one {w : World} {D : Nat → Prop} {s : St} {c a b : Value} (hc : LV vw w D c s.cells) (hd : DvO w D a b s.dev) : ∀ y ∈ s.vals c a b, y.oneCell' = true := by
  intro y hy
  unfold St.vals at hy
  rcases List.mem_append.1 hy with h | h
  · exact vw_one _ y h
  · simp only [List.mem_cons, List.not_mem_nil, or_false] at h
    rcases h with h | h | h | h | h | h | h | h | h | h <;> subst h
    · exact LV.one hc
    all_goals first | rfl | exact LV.one hd.1 | exact LN.one hd.2
theorem sy_vals_one {w : World} {D : Nat → Prop} {s : Sy} {c a b d : Value} (hc : LV vi w D c s.cells) (hd : SDvO w D a b s.dev) (hk : LV vi w D d s.conds) : ∀ y ∈ s.vals c a b d, y.oneCell' = true := by
  intro y hy
  unfold Sy.vals at hy
  rcases List.mem_append.1 hy with h | h
  · exact vi_one _ y h
  · simp only [List.mem_cons, List.not_mem_nil, or_false] at h
    rcases h with h | h | h | h | h | h | h | h | h | h | h <;> subst h
    · exact LV.one hc
    all_goals first | rfl | exact LV.one hd.1 | exact LN.one hd.2 | exact LV.one hk
/-- A state is put into a variable. -/
theorem M.putSt_i {k : Kt} {w : World} {D : Nat → Prop} {v : Value} {s : St} {b : Nat} {l : List Value} (hv : StO w D v s) (hb : Blk w b l) (hl : l.length = 18)
    (h : ∀ w' L, Blk w' b L → v = .agg ⟨L⟩ → L.length = 18 → Keep w w' (· = b) → w'.heap.size = w.heap.size → k undef w') : M.store 18 (ptr b) v k w := by
  obtain ⟨h8, c, a, bb, rfl, hc, hd⟩ := hv
  have hlen : (s.vals c a bb).length = 18 := by simp [St.vals, h8]
  exact M.storeAll_i hb hlen hl (st_vals_one hc hd) (fun w' b' k' s' => h w' _ b' rfl hlen k' s')
theorem M.putSy_i {k : Kt} {w : World} {D : Nat → Prop} {v : Value} {s : Sy} {b : Nat} {l : List Value} (hv : SyO w D v s) (hb : Blk w b l) (hl : l.length = 19)
    (h : ∀ w' L, Blk w' b L → v = .agg ⟨L⟩ → L.length = 19 → Keep w w' (· = b) → w'.heap.size = w.heap.size → k undef w') : M.store 19 (ptr b) v k w := by
  obtain ⟨h8, c, a, bb, d, rfl, hc, hd, hk⟩ := hv
  have hlen : (s.vals c a bb d).length = 19 := by simp [Sy.vals, h8]
  exact M.storeAll_i hb hlen hl (sy_vals_one hc hd hk) (fun w' b' k' s' => h w' _ b' rfl hlen k' s')
theorem M.getV_i {k : Kt} {w : World} {v : Value} {b n : Nat} {L : List Value} (hb : Blk w b L) (hv : v = .agg ⟨L⟩) (hl : L.length = n) (h : k v w) : M.loadA n (ptr b) k w := by
  subst hv
  exact M.loadAll_i hb hl h
theorem of_ok {w : World} {F De D : Nat → Prop} {p : Nat} {N : List Nd} {most : Int} {ev : Value} {env : List W64} {sv : Value} {s : Sy} {hb : Bool} {t : St} (hd : DagO w F p N most) (he : LV vw w De ev env) (hel : env.length ≤ 1000000) (hs : SyO w D sv s) (hf : s.few) (hbad : stBad N s = false) (hho : stHolds N env s = hb) (hof : stOf N env s = t) :
    Ret Try.prog 15 #[ptr p, sv, ev] w (fun r w' => ∃ v, r = .tuple #[v, .bool hb, vi 0] ∧ StO w' (w.heap.size ≤ ·) v t ∧ Keep w w' No) :=
  (of_ret hd he hel hs hf).mono (fun r w' ⟨v, h1, h2, h3⟩ => by
    rw [hbad] at h1 h2
    simp only [Bool.false_eq_true, if_false] at h1 h2
    rw [hho] at h1
    rw [hof] at h2
    exact ⟨v, h1, h2, h3⟩)
theorem device_ok {w : World} {F D : Nat → Prop} {p : Nat} {N N' : List Nd} {most e : Int} {ids : List Int} {u : Value} {xs : List W64} (hd : DagO w F p N most) (hl : LV vw w D u xs) (hf : xs.length ≤ 1000000) (hD : ∀ b, D b → ¬ F b) (h : devN most N xs [] = (N', ids, e)) :
    Ret Try.prog 13 #[ptr p, u] w (fun r w' => ∃ F' A c, r = .tuple #[.agg ⟨[.slice A ids.length c, .slice none 0 0, vi 0]⟩, vi e] ∧ DagO w' F' p N' most ∧ (∀ b, b < w.heap.size → F' b → F b) ∧ Keep w w' F ∧ LV vi w' (fun b => ¬ F' b) (.slice A ids.length c) ids) :=
  (device_ret hd hl hf hD).mono (fun r w' ⟨F', a, h1, h2, h3, h4, h5⟩ => by
    rw [h] at h1 h2 h5
    obtain ⟨A, c, rfl, g1, g2⟩ := h5
    exact ⟨F', A, c, h1, h2, h3, h4, A, c, rfl, g1.mono (fun b _ h => h.2), g2⟩)
theorem deviceOf_ok {w : World} {F De D : Nat → Prop} {p : Nat} {N : List Nd} {most : Int} {ev : Value} {env : List W64} {a b : Value} {d : SDv} {t : Dv} {e : Int} (hd : DagO w F p N most) (he : LV vw w De ev env) (hel : env.length ≤ 1000000) (hs : SDvO w D a b d) (hf : d.few) (ht : (if devBad N d then ⟨[], [], 0⟩ else devOf N env d) = t) (hep : (if devBad N d then 0 else d.ep) = 0) (hte : t.pend = []) (hee : (if devBad N d then 11 else 0) = e) :
    Ret Try.prog 23 #[ptr p, .agg ⟨[a, b, vi d.ep]⟩, ev] w (fun r w' => ∃ A c B c', r = .tuple #[.agg ⟨[.slice A t.disk.length c, .slice B 0 c', vi 0]⟩, vi e] ∧ LV vw w' (w.heap.size ≤ ·) (.slice A t.disk.length c) t.disk ∧ Keep w w' No) :=
  (deviceOf_ret hd he hel hs hf).mono (fun r w' ⟨a', b', h1, h2, h3⟩ => by
    rw [ht] at h2
    rw [hep, hee] at h1
    obtain ⟨⟨A, c, rfl, g1, g2⟩, B, c', rfl, _, _⟩ := h2
    rw [hte] at h1
    exact ⟨A, c, B, c', h1, ⟨A, c, rfl, g1, g2⟩, h3⟩)
theorem var_ok {w : World} {F : Nat → Prop} {p : Nat} {N N' : List Nd} {most i e : Int} (n k : Int) (hd : DagO w F p N most) (h : varN most N n k = (N', i, e)) :
    Ret Try.prog 50 #[ptr p, vi n, vi k] w (fun r w' => ∃ F', r = .tuple #[vi i, vi e] ∧ DagO w' F' p N' most ∧ (∀ b, b < w.heap.size → F' b → F b) ∧ Keep w w' F) :=
  (var_ret hd n k).mono (fun r w' ⟨F', h1, h2, h3, h4⟩ => by
    rw [h] at h1 h2
    exact ⟨F', h1, h2, h3, h4⟩)
theorem start_ok {w : World} {F D : Nat → Prop} {p : Nat} {N N' : List Nd} {most z : Int} {a b cv : Value} {d : SDv} {conds : List Int} (hd : DagO w F p N most) (hs : SDvO w D a b d) (hcv : LV vi w D cv conds) (hD : ∀ b, D b → ¬ F b) (n : Int) (h : constN most N 64 0 = (N', z, 0)) :
    Ret Try.prog 14 #[ptr p, .agg ⟨[a, b, vi d.ep]⟩, vi n, cv] w (fun r w' => ∃ F' v, r = .tuple #[v, vi 0] ∧ DagO w' F' p N' most ∧ (∀ b, b < w.heap.size → F' b → F b) ∧ Keep w w' F ∧ SyO w' (fun b => ¬ F' b) v ⟨List.replicate 8 z, List.replicate (cellsOk n) z, 0, 0, 0, 0, 0, -1, d, conds⟩) :=
  (sstart_ret hd hs hcv hD n (by rw [h])).mono (fun r w' ⟨F', v, h1, h2, h3, h4, h5⟩ => by
    rw [h] at h2 h5
    exact ⟨F', v, h1, h2, h3, h4, h5.mono (fun b _ h => h.2)⟩)
abbrev aN2 : List Nd := [⟨20, 64, 0, 0, 0, 5⟩, ⟨20, 64, 0, 0, 0, 6⟩]
abbrev aN3 : List Nd := aN2 ++ [⟨21, 1, 0, 0, 0, 0⟩]
abbrev aN4 : List Nd := aN3 ++ [⟨20, 64, 0, 0, 0, 0⟩]
abbrev aSy : Sy := ⟨List.replicate 8 3, List.replicate (cellsOk 2) 3, 0, 0, 0, 0, 0, -1, ⟨[0, 1], [], 0⟩, [2]⟩
abbrev aSt : St := ⟨[0, 0, 0, 0, 0, 0, 0, 0], [0, 0], 0, 0, 0, 0, 0, 0, ⟨[5, 6], [], 0⟩⟩
theorem lvw_of_blk {w : World} {b n : Nat} {xs : List W64} (h : Blk w b (xs.map vw)) (hn : n = xs.length) {D : Nat → Prop} (hD : D b) : LV vw w D (.slice (some ⟨b, 0, none⟩) n n) xs := by
  subst hn
  exact ⟨_, _, rfl, Row.of_blk' h hD, Nat.le_refl _⟩
theorem lvi_of_blk {w : World} {b n : Nat} {xs : List Int} (h : Blk w b (xs.map vi)) (hn : n = xs.length) {D : Nat → Prop} (hD : D b) : LV vi w D (.slice (some ⟨b, 0, none⟩) n n) xs := by
  subst hn
  exact ⟨_, _, rfl, Row.of_blk' h hD, Nat.le_refl _⟩
set_option maxHeartbeats 2000000 in
theorem awake36_ret (w : World) : Ret Try.prog 11 #[] w (fun v w' => v = .bool true ∧ Keep w w' No) := by
  have c2 : devN 9 [] [5, 6] [] = (aN2, [0, 1], 0) := by kernel_rfl
  have c3 : varN 9 aN2 1 0 = (aN3, 2, 0) := by kernel_rfl
  have c4 : constN 9 aN3 64 0 = (aN4, 3, 0) := by kernel_rfl
  have cb : stBad aN4 aSy = false := by kernel_rfl
  have ch1 : stHolds aN4 [1] aSy = true := by kernel_rfl
  have ch0 : stHolds aN4 [] aSy = false := by kernel_rfl
  have co1 : stOf aN4 [1] aSy = aSt := by kernel_rfl
  have co0 : stOf aN4 [] aSy = aSt := by kernel_rfl
  have cd1 : (if devBad aN4 ⟨[0, 1], [], 0⟩ then (⟨[], [], 0⟩ : Dv) else devOf aN4 [] ⟨[0, 1], [], 0⟩) = ⟨[5, 6], [], 0⟩ := by kernel_rfl
  have cd2 : (if devBad aN4 ⟨[77], [], 0⟩ then (⟨[], [], 0⟩ : Dv) else devOf aN4 [] ⟨[77], [], 0⟩) = ⟨[], [], 0⟩ := by kernel_rfl
  have c5 : devN 0 [] [5] [] = ([], [], 8) := by kernel_rfl
  have hfew : Sy.few aSy := ⟨by decide, ⟨by decide, by decide⟩, by decide⟩
  refine ok11 _ _ ?_
  unfold sh11
  refine M.call_i (new_ret 9 w) ?_; rintro _ w1 ⟨F, p, rfl, hd1, hF, k1⟩
  rw [if_neg (by omega)] at hd1
  (repeat (first|refine ja ?_|refine jb ?_|refine jc ?_|refine jd ?_|refine je ?_|refine jf ?_|refine jg ?_|refine jh ?_|refine ji ?_|refine jj ?_|refine jk ?_|refine jl ?_|refine jm ?_|refine jn ?_|refine jo ?_|refine jp ?_|refine jq ?_|refine jr ?_|refine js ?_|refine jt ?_|refine ju ?_|refine jv ?_|refine jw ?_|refine jx ?_|refine jy ?_|refine jz ?_|refine jA ?_|refine jB ?_|refine jC ?_|refine jD ?_|refine jE ?_|refine jF ?_|refine jG ?_|refine jH ?_|refine jI ?_|refine jJ ?_|refine jK ?_|refine jL ?_|refine jM (by assumption) ?_|refine jN (by assumption) rfl ?_|refine jO (by assumption) ?_|refine jP (by assumption) rfl ?_|refine jQ ?_|refine jR ?_|refine jS ?_|refine jT ?_|refine jU (by assumption) rfl ?_))
  refine M.buildSlice_i ([5, 6].map vw) (by kernel_rfl) (fun w2 b2 k2 s2 => ?_)
  have hd := hd1.keepN k2
  have z2 := k1.trans k2 (fun _ _ h => h)
  refine M.call_i (device_ok hd (lvw_of_blk (D := fun b => b = w1.heap.size) b2 rfl rfl) (by decide) (fun b hb h => by have := hd1.lt h; omega) c2) ?_; rintro _ w3 ⟨F3, A3, q3, rfl, hd3, hF3, k3, l3⟩
  have g1 := k1.size; have g2 := k2.size; have g3 := k3.size
  have hF3w : ∀ b, b < w.heap.size → ¬ F3 b := fun b hb h => by have := hF b (hF3 b (by omega) h); omega
  have z3 : Keep w w3 No := z2.trans k3 (fun b hb h => by have := hF b h; omega)
  refine M.extract_i (v := .agg ⟨[.slice A3 2 q3, .slice none 0 0, vi 0]⟩) rfl ?_
  refine M.extract_i (v := vi 0) rfl ?_
  refine M.new_i (l := zDv) (fun w4 b4 k4 s4 => ?_)
  refine M.storeAll_i b4 rfl rfl (List.all_eq_true.1 rfl) (fun w5 b5 k5 s5 => ?_)
  have k35 : Keep w3 w5 No := k4.trans k5 (fun b hb h => by omega)
  have hd5 := hd3.keepN k35
  have l5 := l3.keep k35 (fun _ _ _ h => h)
  refine M.call_i (var_ok 1 0 hd5 c3) ?_; rintro _ w6 ⟨F6, rfl, hd6, hF6, k6⟩
  have g4 := k35.size; have g6 := k6.size
  have b6 := b5.keep k6 (fun h => by have := hd3.lt h; omega)
  have l6 := (l5.mono (D' := fun b => ¬ F3 b ∧ ¬ F6 b) (fun b hb h => ⟨h, fun e => h (hF6 b hb e)⟩)).keep k6 (fun _ _ h => h.1)
  have hF6w : ∀ b, b < w.heap.size → ¬ F6 b := fun b hb h => hF3w b hb (hF6 b (by omega) h)
  have z6 : Keep w w6 No := (z3.trans k35 (fun _ _ h => h)).trans k6 (fun b hb h => hF3w b hb h)
  refine M.extract_i (v := vi 2) rfl ?_
  refine M.extract_i (v := vi 0) rfl ?_
  refine M.loadAll_i b6 rfl ?_
  refine M.buildSlice_i ([2].map vi) (by kernel_rfl) (fun w7 b7 k7 s7 => ?_)
  have l7 := (l6.mono (D' := fun b => ¬ F6 b) (fun b hb h => h.2)).keep k7 (fun _ _ _ h => h)
  have hF66 : ¬ F6 w6.heap.size := fun h => by have := hd6.lt h; omega
  refine M.call_i (start_ok (d := ⟨[0, 1], [], 0⟩) (D := fun b => ¬ F6 b) (hd6.keepN k7) ⟨l7, LN.nil _ _ _⟩ (lvi_of_blk b7 rfl hF66) (fun b h => h) 2 c4) ?_; rintro _ w8 ⟨F8, sv, rfl, hd8, hF8, k8, sy8⟩
  have g7 := k7.size; have g8 := k8.size
  have z8 : Keep w w8 No := (z6.trans k7 (fun _ _ h => h)).trans k8 (fun b hb h => hF6w b hb h)
  have b8 := (b6.keep k7 (fun h => h)).keep k8 (fun h => by have := hF6 _ (by omega) h; have := hd3.lt this; omega)
  obtain ⟨_, cv, x, y, dv, rfl, e1, e2, e3⟩ := id sy8
  refine M.extract_i (v := .agg ⟨[vi 3, vi 3, vi 3, vi 3, vi 3, vi 3, vi 3, vi 3, cv, vi 0, vi 0, vi 0, vi 0, vi 0, vi (-1), x, y, vi 0, dv]⟩) rfl ?_
  refine M.extract_i (v := vi 0) rfl ?_
  refine M.new_i (l := zSy) (fun w9 b9 k9 s9 => ?_)
  refine M.storeAll_i b9 rfl rfl (sy_vals_one (w := w8) (s := aSy) e1 e2 e3) (fun w10 b10 k10 s10 => ?_)
  have k810 : Keep w8 w10 No := k9.trans k10 (fun b hb h => by omega)
  have hd10 := hd8.keepN k810
  have sy10 := sy8.keep k810 (fun _ _ _ h => h)
  have b10d := b8.keep k810 (fun h => h)
  have z10 := z8.trans k810 (fun _ _ h => h)
  refine M.loadAll_i b10 rfl ?_
  refine M.buildSlice_i ([1].map vw) (by kernel_rfl) (fun w11 b11 k11 s11 => ?_)
  refine M.call_i (of_ok (s := aSy) (hd10.keepN k11) (lvw_of_blk (D := fun _ => True) b11 rfl trivial) (by decide) (sy10.keep k11 (fun _ _ _ h => h)) hfew cb ch1 co1) ?_; rintro _ w12 ⟨v1, rfl, st1, k12⟩
  obtain ⟨_, cc1, x1, y1, rfl, f1, f2⟩ := id st1
  obtain ⟨A1, q1, rfl, _, _⟩ := id f1
  refine M.extract_i (v := .agg ⟨[vw 0, vw 0, vw 0, vw 0, vw 0, vw 0, vw 0, vw 0, .slice A1 2 q1, vi 0, vi 0, vi 0, vi 0, vi 0, vw 0, x1, y1, vi 0]⟩) rfl ?_
  refine M.extract_i (v := .bool true) rfl ?_
  refine M.extract_i (v := vi 0) rfl ?_
  refine M.new_i (l := zSt) (fun w13 b13 k13 s13 => ?_)
  refine M.storeAll_i b13 rfl rfl (st_vals_one (w := w12) (s := aSt) f1 f2) (fun w14 b14 k14 s14 => ?_)
  have k1014 : Keep w10 w14 No := ((k11.trans k12 (fun _ _ h => h)).trans k13 (fun _ _ h => h)).trans k14 (fun b hb h => by have := k11.size; have := k12.size; omega)
  have k1214 : Keep w12 w14 No := k13.trans k14 (fun b hb h => by omega)
  have f2 := f2.keep k1214 (fun _ _ _ h => h)
  have b10 := b10.keep k1014 (fun h => h)
  have b10d := b10d.keep k1014 (fun h => h)
  have hd14 := hd10.keepN k1014
  have z14 := z10.trans k1014 (fun _ _ h => h)
  refine M.loadAll_i b10 rfl ?_
  refine M.call_i (of_ok (s := aSy) hd14 (LV.nil vw _ No) (by decide) (sy10.keep k1014 (fun _ _ _ h => h)) hfew cb ch0 co0) ?_; rintro _ w15 ⟨v2, rfl, st2, k15⟩
  refine M.extract_i (v := v2) rfl ?_
  refine M.extract_i (v := .bool false) rfl ?_
  refine M.extract_i (v := vi 0) rfl ?_
  refine M.new_i (l := zSt) (fun w16 b16 k16 s16 => ?_)
  refine M.putSt_i (st2.keep k16 (fun _ _ _ h => h)) b16 rfl (fun w17 L17 b17 _ _ k17 s17 => ?_)
  have k1417 : Keep w14 w17 No := (k15.trans k16 (fun _ _ h => h)).trans k17 (fun b hb h => by have := k15.size; omega)
  have b10 := b10.keep k1417 (fun h => h)
  have b10d := b10d.keep k1417 (fun h => h)
  have b14 := b14.keep k1417 (fun h => h)
  have f2 := f2.keep k1417 (fun _ _ _ h => h)
  have hd17 := hd14.keepN k1417
  have z17 := z14.trans k1417 (fun _ _ h => h)
  have k817 : Keep w8 w17 No := (k810.trans k1014 (fun _ _ h => h)).trans k1417 (fun _ _ h => h)
  refine M.loadAll_i b10d rfl ?_
  refine M.call_i (deviceOf_ok (d := ⟨[0, 1], [], 0⟩) (e := 0) hd17 (LV.nil vw _ No) (by decide) ⟨LV.mono (D' := fun _ => True) (LV.keep (LV.keep l7 k8 (fun _ _ h => h)) k817 (fun _ _ _ h => h)) (fun _ _ _ => trivial), LN.nil _ _ _⟩ ⟨by decide, by decide⟩ cd1 (by kernel_rfl) rfl (by kernel_rfl)) ?_; rintro _ w18 ⟨A18, q18, B18, r18, rfl, l18, k18⟩
  refine M.extract_i (v := .agg ⟨[.slice A18 2 q18, .slice B18 0 r18, vi 0]⟩) rfl ?_
  refine M.extract_i (v := vi 0) rfl ?_
  refine M.new_i (l := zDv) (fun w19 b19 k19 s19 => ?_)
  refine M.storeAll_i b19 rfl rfl (List.all_eq_true.1 rfl) (fun w20 b20 k20 s20 => ?_)
  have k1820 : Keep w18 w20 No := k19.trans k20 (fun b hb h => by omega)
  refine M.buildSlice_i ([77].map vi) (by kernel_rfl) (fun w21 b21 k21 s21 => ?_)
  have k1721 : Keep w17 w21 No := (k18.trans k1820 (fun _ _ h => h)).trans k21 (fun _ _ h => h)
  refine M.pure_i (.agg ⟨[.slice (some ⟨w20.heap.size, 0, none⟩) 1 1, .slice none 0 0, vi 0]⟩) (fun _ => by kernel_rfl) ?_
  refine M.call_i (deviceOf_ok (d := ⟨[77], [], 0⟩) (e := 11) (hd17.keepN k1721) (LV.nil vw _ No) (by decide) ⟨lvi_of_blk (D := fun _ => True) b21 rfl trivial, LN.nil _ _ _⟩ ⟨by decide, by decide⟩ cd2 (by kernel_rfl) rfl (by kernel_rfl)) ?_; rintro _ w22 ⟨A22, q22, B22, r22, rfl, l22, k22⟩
  refine M.extract_i (v := .agg ⟨[.slice A22 0 q22, .slice B22 0 r22, vi 0]⟩) rfl ?_
  refine M.extract_i (v := vi 11) rfl ?_
  refine M.new_i (l := zDv) (fun w23 b23 k23 s23 => ?_)
  refine M.storeAll_i b23 rfl rfl (List.all_eq_true.1 rfl) (fun w24 b24 k24 s24 => ?_)
  have k2224 : Keep w22 w24 No := k23.trans k24 (fun b hb h => by omega)
  refine M.call_i (new_ret 0 w24) ?_; rintro _ w25 ⟨Fz, pz, rfl, hz, hFz, k25⟩
  rw [if_neg (by omega)] at hz
  refine M.buildSlice_i ([5].map vw) (by kernel_rfl) (fun w26 b26 k26 s26 => ?_)
  refine M.call_i (device_ok (hz.keepN k26) (lvw_of_blk (D := fun b => b = w25.heap.size) b26 rfl rfl) (by decide) (fun b hb h => by have := hz.lt h; omega) c5) ?_; rintro _ w27 ⟨F27, A27, q27, rfl, hd27, hF27, k27, l27⟩
  have k2427 : Keep w24 w27 No := (k25.trans k26 (fun _ _ h => h)).trans k27 (fun b hb h => by have := hFz b h; omega)
  refine M.extract_i (v := .agg ⟨[.slice A27 0 q27, .slice none 0 0, vi 0]⟩) rfl ?_
  refine M.extract_i (v := vi 8) rfl ?_
  refine M.new_i (l := zDv) (fun w28 b28 k28 s28 => ?_)
  refine M.storeAll_i b28 rfl rfl (List.all_eq_true.1 rfl) (fun w29 b29 k29 s29 => ?_)
  have k2029 : Keep w20 w29 No := (((k21.trans k22 (fun _ _ h => h)).trans k2224 (fun _ _ h => h)).trans k2427 (fun _ _ h => h)).trans (k28.trans k29 (fun b hb h => by omega) : Keep w27 w29 No) (fun _ _ h => h)
  have k1729 : Keep w17 w29 No := (k18.trans k1820 (fun _ _ h => h)).trans k2029 (fun _ _ h => h)
  have b10 := b10.keep k1729 (fun h => h)
  have b14 := b14.keep k1729 (fun h => h)
  have b20 := b20.keep k2029 (fun h => h)
  have f2 := f2.keep k1729 (fun _ _ _ h => h)
  have l18 := (l18.keep k1820 (fun _ _ _ h => h)).keep k2029 (fun _ _ _ h => h)
  have z29 := z17.trans k1729 (fun _ _ h => h)
  clear hd hd1 hd3 hd5 hd6 hd8 hd10 hd14 hd17 sy8 sy10 st1 st2
  (repeat (first|refine ja ?_|refine jb ?_|refine jc ?_|refine jd ?_|refine je ?_|refine jf ?_|refine jg ?_|refine jh ?_|refine ji ?_|refine jj ?_|refine jk ?_|refine jl ?_|refine jm ?_|refine jn ?_|refine jo ?_|refine jp ?_|refine jq ?_|refine jr ?_|refine js ?_|refine jt ?_|refine ju ?_|refine jv ?_|refine jw ?_|refine jx ?_|refine jy ?_|refine jz ?_|refine jA ?_|refine jB ?_|refine jC ?_|refine jD ?_|refine jE ?_|refine jF ?_|refine jG ?_|refine jH ?_|refine jI ?_|refine jJ ?_|refine jK ?_|refine jL ?_|refine jM (by assumption) ?_|refine jN (by assumption) rfl ?_|refine jO (by assumption) ?_|refine jP (by assumption) rfl ?_|refine jQ ?_|refine jR ?_|refine jS ?_|refine jT ?_|refine jU (by assumption) rfl ?_|refine jG ?_ (by decide)|refine jH ?_ (by decide)|refine jI ?_ (by decide)|refine jJ ?_ (by decide)|refine jC ?_ (by decide)|refine jy ?_ (by decide)))
  refine M.buildSlice_i ([5, 6].map vw) (by kernel_rfl) (fun w30 b30 k30 s30 => ?_)
  (repeat (first|refine ja ?_|refine jb ?_|refine jc ?_|refine jd ?_|refine je ?_|refine jf ?_|refine jg ?_|refine jh ?_|refine ji ?_|refine jj ?_|refine jk ?_|refine jl ?_|refine jm ?_|refine jn ?_|refine jo ?_|refine jp ?_|refine jq ?_|refine jr ?_|refine js ?_|refine jt ?_|refine ju ?_|refine jv ?_|refine jw ?_|refine jx ?_|refine jy ?_|refine jz ?_|refine jA ?_|refine jB ?_|refine jC ?_|refine jD ?_|refine jE ?_|refine jF ?_|refine jG ?_|refine jH ?_|refine jI ?_|refine jJ ?_|refine jK ?_|refine jL ?_|refine jM (by assumption) ?_|refine jN (by assumption) rfl ?_|refine jO (by assumption) ?_|refine jP (by assumption) rfl ?_|refine jQ ?_|refine jR ?_|refine jS ?_|refine jT ?_|refine jU (by assumption) rfl ?_))
  refine M.call_i (words_ret (f2.1.keep k30 (fun _ _ _ h => h)) (lvw_of_blk (D := fun _ => True) b30 rfl trivial) (by decide)) ?_; rintro _ w31 ⟨rfl, k31⟩
  have k2931 := k30.trans k31 (fun _ _ h => h)
  have b20 := b20.keep k2931 (fun h => h)
  have l18 := l18.keep k2931 (fun _ _ _ h => h)
  (repeat (first|refine ja ?_|refine jb ?_|refine jc ?_|refine jd ?_|refine je ?_|refine jf ?_|refine jg ?_|refine jh ?_|refine ji ?_|refine jj ?_|refine jk ?_|refine jl ?_|refine jm ?_|refine jn ?_|refine jo ?_|refine jp ?_|refine jq ?_|refine jr ?_|refine js ?_|refine jt ?_|refine ju ?_|refine jv ?_|refine jw ?_|refine jx ?_|refine jy ?_|refine jz ?_|refine jA ?_|refine jB ?_|refine jC ?_|refine jD ?_|refine jE ?_|refine jF ?_|refine jG ?_|refine jH ?_|refine jI ?_|refine jJ ?_|refine jK ?_|refine jL ?_|refine jM (by assumption) ?_|refine jN (by assumption) rfl ?_|refine jO (by assumption) ?_|refine jP (by assumption) rfl ?_|refine jQ ?_|refine jR ?_|refine jS ?_|refine jT ?_|refine jU (by assumption) rfl ?_|refine jG ?_ (by decide)|refine jH ?_ (by decide)|refine jI ?_ (by decide)|refine jJ ?_ (by decide)|refine jC ?_ (by decide)|refine jy ?_ (by decide)))
  refine M.buildSlice_i ([5, 6].map vw) (by kernel_rfl) (fun w32 b32 k32 s32 => ?_)
  (repeat (first|refine ja ?_|refine jb ?_|refine jc ?_|refine jd ?_|refine je ?_|refine jf ?_|refine jg ?_|refine jh ?_|refine ji ?_|refine jj ?_|refine jk ?_|refine jl ?_|refine jm ?_|refine jn ?_|refine jo ?_|refine jp ?_|refine jq ?_|refine jr ?_|refine js ?_|refine jt ?_|refine ju ?_|refine jv ?_|refine jw ?_|refine jx ?_|refine jy ?_|refine jz ?_|refine jA ?_|refine jB ?_|refine jC ?_|refine jD ?_|refine jE ?_|refine jF ?_|refine jG ?_|refine jH ?_|refine jI ?_|refine jJ ?_|refine jK ?_|refine jL ?_|refine jM (by assumption) ?_|refine jN (by assumption) rfl ?_|refine jO (by assumption) ?_|refine jP (by assumption) rfl ?_|refine jQ ?_|refine jR ?_|refine jS ?_|refine jT ?_|refine jU (by assumption) rfl ?_))
  refine M.call_i (words_ret (l18.keep k32 (fun _ _ _ h => h)) (lvw_of_blk (D := fun _ => True) b32 rfl trivial) (by decide)) ?_; rintro _ w33 ⟨rfl, k33⟩
  (repeat (first|refine ja ?_|refine jb ?_|refine jc ?_|refine jd ?_|refine je ?_|refine jf ?_|refine jg ?_|refine jh ?_|refine ji ?_|refine jj ?_|refine jk ?_|refine jl ?_|refine jm ?_|refine jn ?_|refine jo ?_|refine jp ?_|refine jq ?_|refine jr ?_|refine js ?_|refine jt ?_|refine ju ?_|refine jv ?_|refine jw ?_|refine jx ?_|refine jy ?_|refine jz ?_|refine jA ?_|refine jB ?_|refine jC ?_|refine jD ?_|refine jE ?_|refine jF ?_|refine jG ?_|refine jH ?_|refine jI ?_|refine jJ ?_|refine jK ?_|refine jL ?_|refine jM (by assumption) ?_|refine jN (by assumption) rfl ?_|refine jO (by assumption) ?_|refine jP (by assumption) rfl ?_|refine jQ ?_|refine jR ?_|refine jS ?_|refine jT ?_|refine jU (by assumption) rfl ?_|refine jG ?_ (by decide)|refine jH ?_ (by decide)|refine jI ?_ (by decide)|refine jJ ?_ (by decide)|refine jC ?_ (by decide)|refine jy ?_ (by decide)))
  exact ⟨rfl, (z29.trans k2931 (fun _ _ h => h)).trans (k32.trans k33 (fun _ _ h => h)) (fun _ _ h => h)⟩
set_option maxHeartbeats 2000000 in
theorem symStarts_ret {w : World} {D D2 : Nat → Prop} {u v : Value} {xs env : List W64} {n : Int} (hu : LV vw w D u xs) (hv : LV vw w D2 v env) :
    Ret Try.prog 3 #[u, vi n, v] w (fun r w' => r = .bool true ∧ Keep w w' No) := by
  have hu := hu.mono (D' := fun b => b < w.heap.size) (fun b hb h => hb)
  have hv := hv.mono (D' := fun b => b < w.heap.size) (fun b hb h => hb)
  obtain ⟨A, c, rfl, _, _⟩ := id hu
  obtain ⟨B, c2, rfl, _, _⟩ := id hv
  refine ok3 _ _ _ _ _ ?_
  unfold sh3
  by_cases h60 : 60 < xs.length
  · (repeat (first|refine ja ?_|refine jb ?_|refine jc ?_|refine jd ?_|refine je ?_|refine jf ?_|refine jg ?_|refine jh ?_|refine ji ?_|refine jj ?_|refine jk ?_|refine jl ?_|refine jm ?_|refine jn ?_|refine jo ?_|refine jp ?_|refine jq ?_|refine jr ?_|refine js ?_|refine jt ?_|refine ju ?_|refine jv ?_|refine jw ?_|refine jx ?_|refine jy ?_|refine jz ?_|refine jA ?_|refine jB ?_|refine jC ?_|refine jD ?_|refine jE ?_|refine jF ?_|refine jG ?_|refine jH ?_|refine jI ?_|refine jJ ?_|refine jK ?_|refine jL ?_|refine jM (by assumption) ?_|refine jN (by assumption) rfl ?_|refine jO (by assumption) ?_|refine jP (by assumption) rfl ?_|refine jQ ?_|refine jR ?_|refine jS ?_|refine jT ?_|refine jU (by assumption) rfl ?_))
    refine M.call_i (awake36_ret w) ?_; rintro _ w1 ⟨rfl, k1⟩
    exact ⟨rfl, k1⟩
  by_cases h300 : 300 < env.length
  · (repeat (first|refine ja ?_|refine jb ?_|refine jc ?_|refine jd ?_|refine je ?_|refine jf ?_|refine jg ?_|refine jh ?_|refine ji ?_|refine jj ?_|refine jk ?_|refine jl ?_|refine jm ?_|refine jn ?_|refine jo ?_|refine jp ?_|refine jq ?_|refine jr ?_|refine js ?_|refine jt ?_|refine ju ?_|refine jv ?_|refine jw ?_|refine jx ?_|refine jy ?_|refine jz ?_|refine jA ?_|refine jB ?_|refine jC ?_|refine jD ?_|refine jE ?_|refine jF ?_|refine jG ?_|refine jH ?_|refine jI ?_|refine jJ ?_|refine jK ?_|refine jL ?_|refine jM (by assumption) ?_|refine jN (by assumption) rfl ?_|refine jO (by assumption) ?_|refine jP (by assumption) rfl ?_|refine jQ ?_|refine jR ?_|refine jS ?_|refine jT ?_|refine jU (by assumption) rfl ?_))
    refine M.call_i (awake36_ret w) ?_; rintro _ w1 ⟨rfl, k1⟩
    exact ⟨rfl, k1⟩
  (repeat (first|refine ja ?_|refine jb ?_|refine jc ?_|refine jd ?_|refine je ?_|refine jf ?_|refine jg ?_|refine jh ?_|refine ji ?_|refine jj ?_|refine jk ?_|refine jl ?_|refine jm ?_|refine jn ?_|refine jo ?_|refine jp ?_|refine jq ?_|refine jr ?_|refine js ?_|refine jt ?_|refine ju ?_|refine jv ?_|refine jw ?_|refine jx ?_|refine jy ?_|refine jz ?_|refine jA ?_|refine jB ?_|refine jC ?_|refine jD ?_|refine jE ?_|refine jF ?_|refine jG ?_|refine jH ?_|refine jI ?_|refine jJ ?_|refine jK ?_|refine jL ?_|refine jM (by assumption) ?_|refine jN (by assumption) rfl ?_|refine jO (by assumption) ?_|refine jP (by assumption) rfl ?_|refine jQ ?_|refine jR ?_|refine jS ?_|refine jT ?_|refine jU (by assumption) rfl ?_))
  refine M.call_i (new_ret 100 w) ?_; rintro _ w1 ⟨F, p, rfl, hd, hF, k1⟩
  rw [if_neg (by omega)] at hd
  (repeat (first|refine ja ?_|refine jb ?_|refine jc ?_|refine jd ?_|refine je ?_|refine jf ?_|refine jg ?_|refine jh ?_|refine ji ?_|refine jj ?_|refine jk ?_|refine jl ?_|refine jm ?_|refine jn ?_|refine jo ?_|refine jp ?_|refine jq ?_|refine jr ?_|refine js ?_|refine jt ?_|refine ju ?_|refine jv ?_|refine jw ?_|refine jx ?_|refine jy ?_|refine jz ?_|refine jA ?_|refine jB ?_|refine jC ?_|refine jD ?_|refine jE ?_|refine jF ?_|refine jG ?_|refine jH ?_|refine jI ?_|refine jJ ?_|refine jK ?_|refine jL ?_|refine jM (by assumption) ?_|refine jN (by assumption) rfl ?_|refine jO (by assumption) ?_|refine jP (by assumption) rfl ?_|refine jQ ?_|refine jR ?_|refine jS ?_|refine jT ?_|refine jU (by assumption) rfl ?_))
  refine M.call_i (device_ret hd (hu.keep k1 (fun _ _ _ h => h)) (by omega) (fun b hb h => by have := hF b h; omega)) ?_; rintro _ w2 ⟨F2, da, rfl, hd2, hF2, k2, hda⟩
  obtain ⟨e1, hG1, hl1, hids⟩ := devN_spec (most := 100) xs [] [] [] hd.good (by simp; omega) ⟨rfl, by simp⟩
  rw [e1]
  rw [List.nil_append] at hids
  simp only [List.length_nil, Nat.zero_add] at hl1
  generalize (devN 100 [] xs []).2.1 = ids at hids hda
  generalize (devN 100 [] xs []).1 = N2 at hids hd2 hl1 hG1
  have hk2 : Keep w w2 No := k1.trans k2 (fun b hb h => by have := hF b h; omega)
  obtain ⟨A3, c3, rfl, _, _⟩ := id hda
  refine M.extract_i rfl ?_
  refine M.extract_i rfl ?_
  refine M.new_i (l := zDv) (fun w3 b3 k3 s3 => ?_)
  refine M.storeAll_i b3 rfl rfl (List.all_eq_true.1 rfl) (fun w4 b4 k4 s4 => ?_)
  refine M.loadAll_i b4 rfl ?_
  have k24 : Keep w2 w4 No := k3.trans k4 (fun b hb h => by omega)
  have q2 := hk2.size
  obtain ⟨z0, ⟨kz, hz1, hz2⟩, ⟨Mx, hM⟩, hG5, hl5⟩ := const_at (most := 100) hG1 (by omega) 0
  have hda4 := (hda.mono (D' := fun b => b < w2.heap.size ∧ ¬ F2 b) (fun b hb h => ⟨hb, h.2⟩)).keep k24 (fun _ _ _ h => h)
  have h24 := hd2.keepN k24
  refine M.call_i (sstart_ret (d := ⟨ids, [], 0⟩) (D := fun b => b < w2.heap.size ∧ ¬ F2 b) h24 ⟨hda4, LN.nil _ _ _⟩ (LV.nil vi _ _) (fun b h => h.2) n z0) ?_; rintro _ w5 ⟨F5, sv, rfl, hd5, hF5, k5, hsy⟩
  have hids5 := hids.ext (M := Mx)
  rw [← hM] at hids5
  rw [hz1] at hsy
  generalize (constN 100 N2 64 0).1 = N5 at hz2 hG5 hl5 hd5 hids5
  have hk5 : Keep w w5 No := (hk2.trans k24 (fun _ _ h => h)).trans k5 (fun b hb h => by have := hF b (hF2 b (by have := k1.size; omega) h); omega)
  refine M.extract_i rfl ?_
  refine M.extract_i rfl ?_
  refine M.new_i (l := zSy) (fun w6 b6 k6 s6 => ?_)
  refine M.putSy_i (hsy.keep k6 (fun _ _ _ h => h)) b6 rfl (fun w7 L b7 hL hLn k7 s7 => ?_)
  refine M.getV_i b7 hL hLn ?_
  have k57 : Keep w5 w7 No := k6.trans k7 (fun b hb h => by omega)
  have hk7 := hk5.trans k57 (fun _ _ h => h)
  have hd7 := hd5.keepN k57
  have hsy7 := hsy.keep k57 (fun _ _ _ h => h)
  have hv7 := hv.keep hk7 (fun _ _ _ h => h)
  have hm : cellsOk n ≤ 255 := by unfold cellsOk; split <;> omega
  have hil : ids.length ≤ 60 := by rw [hids.1]; omega
  have hval := hids5.vals hG5 env
  have hzv := valW_const (env := env) hG5 hz2
  have hbad : stBad N5 ⟨List.replicate 8 (kz : Int), List.replicate (cellsOk n) (kz : Int), 0, 0, 0, 0, 0, -1, ⟨ids, [], 0⟩, []⟩ = false := by
    have e : ∀ m : Nat, (List.replicate m (kz : Int)).any (fun i => !isN N5 i) = false := fun m => by
      rw [List.any_eq_false]
      intro x hx
      rw [(List.mem_replicate.1 hx).2, hzv.2]; simp
    simp only [stBad, devBad, e, hval.2]
    rfl
  have hof : stOf N5 env ⟨List.replicate 8 (kz : Int), List.replicate (cellsOk n) (kz : Int), 0, 0, 0, 0, 0, -1, ⟨ids, [], 0⟩, []⟩ = ⟨List.replicate 8 0, List.replicate (cellsOk n) 0, 0, 0, 0, 0, 0, 0, ⟨xs, [], 0⟩⟩ := by
    simp only [stOf, devOf, List.map_replicate, hzv.1, hval.1]
    rfl
  have hho : stHolds N5 env ⟨List.replicate 8 (kz : Int), List.replicate (cellsOk n) (kz : Int), 0, 0, 0, 0, 0, -1, ⟨ids, [], 0⟩, []⟩ = true := rfl
  refine M.call_i (of_ok hd7 hv7 (by omega) hsy7 ⟨by simp; omega, ⟨by show ids.length ≤ _; omega, by simp⟩, by simp⟩ hbad hho hof) ?_; rintro _ w8 ⟨av, rfl, hst, k8⟩
  have hk8 := hk7.trans k8 (fun _ _ h => h)
  refine M.extract_i rfl ?_
  refine M.extract_i rfl ?_
  refine M.extract_i rfl ?_
  refine M.new_i (l := zSt) (fun w9 b9 k9 s9 => ?_)
  refine M.putSt_i (hst.keep k9 (fun _ _ _ h => h)) b9 rfl (fun w10 La b10 hLa hLan k10 s10 => ?_)
  have k810 : Keep w8 w10 No := k9.trans k10 (fun b hb h => by omega)
  have hk10 := hk8.trans k810 (fun _ _ h => h)
  refine M.call_i (new31_ret (hu.keep hk10 (fun _ _ _ h => h)) (by omega)) ?_; rintro _ w11 ⟨a1, a2, rfl, hdv, k11⟩
  refine M.call_i (start33_ret hdv n) ?_; rintro wv w12 ⟨hst2, k12⟩
  have k1012 := k11.trans k12 (fun _ _ h => h)
  refine M.new_i (l := zSt) (fun w13 b13 k13 s13 => ?_)
  refine M.putSt_i (hst2.keep k13 (fun _ _ _ h => h)) b13 rfl (fun w14 Lb b14 hLb hLbn k14 s14 => ?_)
  have k1014 : Keep w10 w14 No := k1012.trans (k13.trans k14 (fun b hb h => by omega) : Keep w12 w14 No) (fun _ _ h => h)
  have b10 := b10.keep k1014 (fun h => h)
  have hst14 := hst.keep (k810.trans k1014 (fun _ _ h => h)) (fun _ _ _ h => h)
  have hst24 := hst2.keep (k13.trans k14 (fun b hb h => by omega) : Keep w12 w14 No) (fun _ _ _ h => h)
  have hk14 := hk10.trans k1014 (fun _ _ h => h)
  (repeat (first|refine ja ?_|refine jb ?_|refine jc ?_|refine jd ?_|refine je ?_|refine jf ?_|refine jg ?_|refine jh ?_|refine ji ?_|refine jj ?_|refine jk ?_|refine jl ?_|refine jm ?_|refine jn ?_|refine jo ?_|refine jp ?_|refine jq ?_|refine jr ?_|refine js ?_|refine jt ?_|refine ju ?_|refine jv ?_|refine jw ?_|refine jx ?_|refine jy ?_|refine jz ?_|refine jA ?_|refine jB ?_|refine jC ?_|refine jD ?_|refine jE ?_|refine jF ?_|refine jG ?_|refine jH ?_|refine jI ?_|refine jJ ?_|refine jK ?_|refine jL ?_|refine jM (by assumption) ?_|refine jN (by assumption) rfl ?_|refine jO (by assumption) ?_|refine jP (by assumption) rfl ?_|refine jQ ?_|refine jR ?_|refine jS ?_|refine jT ?_|refine jU (by assumption) rfl ?_|refine jG ?_ (by decide)|refine jH ?_ (by decide)|refine jI ?_ (by decide)|refine jJ ?_ (by decide)|refine jC ?_ (by decide)|refine jy ?_ (by decide)))
  refine M.getV_i b10 hLa hLan ?_
  (repeat (first|refine ja ?_|refine jb ?_|refine jc ?_|refine jd ?_|refine je ?_|refine jf ?_|refine jg ?_|refine jh ?_|refine ji ?_|refine jj ?_|refine jk ?_|refine jl ?_|refine jm ?_|refine jn ?_|refine jo ?_|refine jp ?_|refine jq ?_|refine jr ?_|refine js ?_|refine jt ?_|refine ju ?_|refine jv ?_|refine jw ?_|refine jx ?_|refine jy ?_|refine jz ?_|refine jA ?_|refine jB ?_|refine jC ?_|refine jD ?_|refine jE ?_|refine jF ?_|refine jG ?_|refine jH ?_|refine jI ?_|refine jJ ?_|refine jK ?_|refine jL ?_|refine jM (by assumption) ?_|refine jN (by assumption) rfl ?_|refine jO (by assumption) ?_|refine jP (by assumption) rfl ?_|refine jQ ?_|refine jR ?_|refine jS ?_|refine jT ?_|refine jU (by assumption) rfl ?_|refine jG ?_ (by decide)|refine jH ?_ (by decide)|refine jI ?_ (by decide)|refine jJ ?_ (by decide)|refine jC ?_ (by decide)|refine jy ?_ (by decide)))
  refine M.getV_i b14 hLb hLbn ?_
  (repeat (first|refine ja ?_|refine jb ?_|refine jc ?_|refine jd ?_|refine je ?_|refine jf ?_|refine jg ?_|refine jh ?_|refine ji ?_|refine jj ?_|refine jk ?_|refine jl ?_|refine jm ?_|refine jn ?_|refine jo ?_|refine jp ?_|refine jq ?_|refine jr ?_|refine js ?_|refine jt ?_|refine ju ?_|refine jv ?_|refine jw ?_|refine jx ?_|refine jy ?_|refine jz ?_|refine jA ?_|refine jB ?_|refine jC ?_|refine jD ?_|refine jE ?_|refine jF ?_|refine jG ?_|refine jH ?_|refine jI ?_|refine jJ ?_|refine jK ?_|refine jL ?_|refine jM (by assumption) ?_|refine jN (by assumption) rfl ?_|refine jO (by assumption) ?_|refine jP (by assumption) rfl ?_|refine jQ ?_|refine jR ?_|refine jS ?_|refine jT ?_|refine jU (by assumption) rfl ?_|refine jG ?_ (by decide)|refine jH ?_ (by decide)|refine jI ?_ (by decide)|refine jJ ?_ (by decide)|refine jC ?_ (by decide)|refine jy ?_ (by decide)))
  refine M.call_i (same33_ret hst14 hst24 ⟨by simp; omega, by show xs.length ≤ _; omega, by simp⟩) ?_; rintro _ w15 ⟨rfl, k15⟩
  have b10 := b10.keep k15 (fun h => h)
  (repeat (first|refine ja ?_|refine jb ?_|refine jc ?_|refine jd ?_|refine je ?_|refine jf ?_|refine jg ?_|refine jh ?_|refine ji ?_|refine jj ?_|refine jk ?_|refine jl ?_|refine jm ?_|refine jn ?_|refine jo ?_|refine jp ?_|refine jq ?_|refine jr ?_|refine js ?_|refine jt ?_|refine ju ?_|refine jv ?_|refine jw ?_|refine jx ?_|refine jy ?_|refine jz ?_|refine jA ?_|refine jB ?_|refine jC ?_|refine jD ?_|refine jE ?_|refine jF ?_|refine jG ?_|refine jH ?_|refine jI ?_|refine jJ ?_|refine jK ?_|refine jL ?_|refine jM (by assumption) ?_|refine jN (by assumption) rfl ?_|refine jO (by assumption) ?_|refine jP (by assumption) rfl ?_|refine jQ ?_|refine jR ?_|refine jS ?_|refine jT ?_|refine jU (by assumption) rfl ?_|refine jG ?_ (by decide)|refine jH ?_ (by decide)|refine jI ?_ (by decide)|refine jJ ?_ (by decide)|refine jC ?_ (by decide)|refine jy ?_ (by decide)))
  refine M.getV_i b10 hLa hLan ?_
  (repeat (first|refine ja ?_|refine jb ?_|refine jc ?_|refine jd ?_|refine je ?_|refine jf ?_|refine jg ?_|refine jh ?_|refine ji ?_|refine jj ?_|refine jk ?_|refine jl ?_|refine jm ?_|refine jn ?_|refine jo ?_|refine jp ?_|refine jq ?_|refine jr ?_|refine js ?_|refine jt ?_|refine ju ?_|refine jv ?_|refine jw ?_|refine jx ?_|refine jy ?_|refine jz ?_|refine jA ?_|refine jB ?_|refine jC ?_|refine jD ?_|refine jE ?_|refine jF ?_|refine jG ?_|refine jH ?_|refine jI ?_|refine jJ ?_|refine jK ?_|refine jL ?_|refine jM (by assumption) ?_|refine jN (by assumption) rfl ?_|refine jO (by assumption) ?_|refine jP (by assumption) rfl ?_|refine jQ ?_|refine jR ?_|refine jS ?_|refine jT ?_|refine jU (by assumption) rfl ?_|refine jG ?_ (by decide)|refine jH ?_ (by decide)|refine jI ?_ (by decide)|refine jJ ?_ (by decide)|refine jC ?_ (by decide)|refine jy ?_ (by decide)))
  refine M.call_i (few33_ret (hst14.keep k15 (fun _ _ _ h => h)) (by simp; omega) (by show xs.length ≤ _; omega) (by simp)) ?_; rintro _ w16 ⟨rfl, k16⟩
  (repeat (first|refine ja ?_|refine jb ?_|refine jc ?_|refine jd ?_|refine je ?_|refine jf ?_|refine jg ?_|refine jh ?_|refine ji ?_|refine jj ?_|refine jk ?_|refine jl ?_|refine jm ?_|refine jn ?_|refine jo ?_|refine jp ?_|refine jq ?_|refine jr ?_|refine js ?_|refine jt ?_|refine ju ?_|refine jv ?_|refine jw ?_|refine jx ?_|refine jy ?_|refine jz ?_|refine jA ?_|refine jB ?_|refine jC ?_|refine jD ?_|refine jE ?_|refine jF ?_|refine jG ?_|refine jH ?_|refine jI ?_|refine jJ ?_|refine jK ?_|refine jL ?_|refine jM (by assumption) ?_|refine jN (by assumption) rfl ?_|refine jO (by assumption) ?_|refine jP (by assumption) rfl ?_|refine jQ ?_|refine jR ?_|refine jS ?_|refine jT ?_|refine jU (by assumption) rfl ?_|refine jG ?_ (by decide)|refine jH ?_ (by decide)|refine jI ?_ (by decide)|refine jJ ?_ (by decide)|refine jC ?_ (by decide)|refine jy ?_ (by decide)))
  refine M.call_i (awake36_ret w16) ?_; rintro _ w17 ⟨rfl, k17⟩
  (repeat (first|refine ja ?_|refine jb ?_|refine jc ?_|refine jd ?_|refine je ?_|refine jf ?_|refine jg ?_|refine jh ?_|refine ji ?_|refine jj ?_|refine jk ?_|refine jl ?_|refine jm ?_|refine jn ?_|refine jo ?_|refine jp ?_|refine jq ?_|refine jr ?_|refine js ?_|refine jt ?_|refine ju ?_|refine jv ?_|refine jw ?_|refine jx ?_|refine jy ?_|refine jz ?_|refine jA ?_|refine jB ?_|refine jC ?_|refine jD ?_|refine jE ?_|refine jF ?_|refine jG ?_|refine jH ?_|refine jI ?_|refine jJ ?_|refine jK ?_|refine jL ?_|refine jM (by assumption) ?_|refine jN (by assumption) rfl ?_|refine jO (by assumption) ?_|refine jP (by assumption) rfl ?_|refine jQ ?_|refine jR ?_|refine jS ?_|refine jT ?_|refine jU (by assumption) rfl ?_|refine jG ?_ (by decide)|refine jH ?_ (by decide)|refine jI ?_ (by decide)|refine jJ ?_ (by decide)|refine jC ?_ (by decide)|refine jy ?_ (by decide)))
  exact ⟨rfl, ((hk14.trans k15 (fun _ _ h => h)).trans k16 (fun _ _ h => h)).trans k17 (fun _ _ h => h)⟩
end Go.Proofs.Ytgbodhibflpgmaa
