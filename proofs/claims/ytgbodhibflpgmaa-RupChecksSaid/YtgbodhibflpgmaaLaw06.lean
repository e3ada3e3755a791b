import Derived.Test.YtgbodhibflpgmaaFew04
import Derived.Test.YtgbodhibflpgmaaUnit06Q
import Derived.Test.YtgbodhibflpgmaaSlices
namespace Go.Proofs.Ytgbodhibflpgmaa
open Go.Mw
set_option linter.unusedVariables false
set_option linter.unusedSimpArgs false
set_option maxRecDepth 100000
attribute [local irreducible] M.val M.unit M.next M.pick M.new M.nilCheck M.load1 M.loadA M.store M.fieldAddr M.indexSl M.indexArr M.slice M.makeSlice M.buildSlice M.len M.lenS M.cap M.append M.extract M.conv M.not M.neg M.bin M.shift M.eqB M.eqNil M.call M.callv M.gd M.share M.cond M.loop M.draw pureW readW Ret
/-! breakwater/unit.Follows: function 31 -/
def sh31 (x0 x1 x2 : Value) (R : Kt) (w : World) : Prop :=
  M.call Try.prog 28 #[x0, x1] (fun t12 w =>
  M.extract 0 t12 (fun t13 w =>
  M.extract 1 t12 (fun t14 w =>
  M.not t14 (fun t16 w =>
  M.gd t16 false (fun k w => k t13 w) (fun t18 w =>
  M.gd t16 false (fun k w => k x2 w) (fun t19 w =>
  M.gd t16 false (fun k w => M.call Try.prog 69 #[t18, t19] k w) (fun t20 w =>
  M.pick t16 (Value.bool true) t20 (fun t21 w =>
  R t21 w) w) w) w) w) w) w) w) w
theorem ok31 (x0 x1 x2 : Value) (R : Kt) (w : World) (h : sh31 x0 x1 x2 R w) : Ret Try.prog 31 #[x0, x1, x2] w R :=
  ret_mk <| calls_of_comp mixed (c := Try.f31.body.getD .skip) (args := [x0, x1, x2]) (rs := [(ResultVar.tmp 6)]) (Ann.seq Ann.text (Ann.seq Ann.text (Ann.seq Ann.text Ann.leaf)))
    Try.func31 (by kernel_rfl) (by kernel_rfl)
    (Eq.mp (by kernel_rfl) h)
/-! breakwater/breakwaterref06.Follows: function 32 -/
def sh32 (x0 x1 x2 : Value) (R : Kt) (w : World) : Prop :=
  M.call Try.prog 29 #[x0, x1] (fun t12 w =>
  M.extract 0 t12 (fun t13 w =>
  M.extract 1 t12 (fun t14 w =>
  M.not t14 (fun t16 w =>
  M.gd t16 false (fun k w => k t13 w) (fun t18 w =>
  M.gd t16 false (fun k w => k x2 w) (fun t19 w =>
  M.gd t16 false (fun k w => M.call Try.prog 70 #[t18, t19] k w) (fun t20 w =>
  M.pick t16 (Value.bool true) t20 (fun t21 w =>
  R t21 w) w) w) w) w) w) w) w) w
theorem ok32 (x0 x1 x2 : Value) (R : Kt) (w : World) (h : sh32 x0 x1 x2 R w) : Ret Try.prog 32 #[x0, x1, x2] w R :=
  ret_mk <| calls_of_comp mixed (c := Try.f32.body.getD .skip) (args := [x0, x1, x2]) (rs := [(ResultVar.tmp 6)]) (Ann.seq Ann.text (Ann.seq Ann.text (Ann.seq Ann.text Ann.leaf)))
    Try.func32 (by kernel_rfl) (by kernel_rfl)
    (Eq.mp (by kernel_rfl) h)
/-! breakwater/breakwaterlaw06.awake: function 27 -/
def sh27 (R : Kt) (w : World) : Prop :=
  M.buildSlice 3 1 #[.int .i64 0] 2 [(0, (Value.int IntKind.i64 1)), (1, (Value.int IntKind.i64 2))] (fun t8 w =>
  M.buildSlice 3 1 #[.int .i64 0] 2 [(0, (Value.int IntKind.i64 3)), (1, (Value.int IntKind.i64 4))] (fun t9 w =>
  M.buildSlice 26 1 #[.slice none 0 0] 2 [(0, t8), (1, t9)] (fun t10 w =>
  M.buildSlice 3 1 #[.int .i64 0] 1 [(0, (Value.int IntKind.i64 0))] (fun t11 w =>
  M.call Try.prog 28 #[t10, t11] (fun t12 w =>
  M.extract 0 t12 (fun t13 w =>
  M.extract 1 t12 (fun t14 w =>
  M.buildSlice 3 1 #[.int .i64 0] 1 [(0, (Value.int IntKind.i64 0))] (fun t16 w =>
  M.buildSlice 3 1 #[.int .i64 0] 1 [(0, (Value.int IntKind.i64 1))] (fun t17 w =>
  M.buildSlice 26 1 #[.slice none 0 0] 2 [(0, t16), (1, t17)] (fun t18 w =>
  M.call Try.prog 28 #[t18, (Value.slice none 0 0)] (fun t19 w =>
  M.extract 0 t19 (fun t20 w =>
  M.extract 1 t19 (fun t21 w =>
  M.buildSlice 3 1 #[.int .i64 0] 3 [(0, (Value.int IntKind.i64 5)), (1, (Value.int IntKind.i64 5)), (2, (Value.int IntKind.i64 (-1)))] (fun t23 w =>
  M.call Try.prog 28 #[(Value.slice none 0 0), t23] (fun t24 w =>
  M.extract 0 t24 (fun t25 w =>
  M.extract 1 t24 (fun t26 w =>
  M.buildSlice 3 1 #[.int .i64 0] 3 [(0, (Value.int IntKind.i64 0)), (1, (Value.int IntKind.i64 2)), (2, (Value.int IntKind.i64 4))] (fun t28 w =>
  M.call Try.prog 30 #[t13, t28] (fun t29 w =>
  M.gd t29 true (fun k w => k t14 w) (fun t31 w =>
  M.pick t29 t31 (Value.bool false) (fun t32 w =>
  M.gd t32 true (fun k w => k t21 w) (fun t34 w =>
  M.gd t32 true (fun k w => M.not t34 k w) (fun t35 w =>
  M.pick t32 t35 (Value.bool false) (fun t36 w =>
  M.gd t36 true (fun k w => k t25 w) (fun t38 w =>
  M.gd t36 true (fun k w => M.buildSlice 3 1 #[.int .i64 0] 1 [(0, (Value.int IntKind.i64 5))] k w) (fun t39 w =>
  M.gd t36 true (fun k w => M.call Try.prog 30 #[t38, t39] k w) (fun t40 w =>
  M.pick t36 t40 (Value.bool false) (fun t41 w =>
  M.gd t41 true (fun k w => k t26 w) (fun t43 w =>
  M.pick t41 t43 (Value.bool false) (fun t44 w =>
  M.gd t44 true (fun k w => M.buildSlice 3 1 #[.int .i64 0] 2 [(0, (Value.int IntKind.i64 1)), (1, (Value.int IntKind.i64 2))] k w) (fun t46 w =>
  M.gd t44 true (fun k w => M.buildSlice 26 1 #[.slice none 0 0] 1 [(0, t46)] k w) (fun t47 w =>
  M.gd t44 true (fun k w => M.buildSlice 3 1 #[.int .i64 0] 1 [(0, (Value.int IntKind.i64 0))] k w) (fun t48 w =>
  M.gd t44 true (fun k w => M.call Try.prog 31 #[t47, t48, (Value.int IntKind.i64 2)] k w) (fun t49 w =>
  M.pick t44 t49 (Value.bool false) (fun t50 w =>
  M.gd t50 true (fun k w => M.buildSlice 3 1 #[.int .i64 0] 2 [(0, (Value.int IntKind.i64 1)), (1, (Value.int IntKind.i64 2))] k w) (fun t52 w =>
  M.gd t50 true (fun k w => M.buildSlice 26 1 #[.slice none 0 0] 1 [(0, t52)] k w) (fun t53 w =>
  M.gd t50 true (fun k w => M.buildSlice 3 1 #[.int .i64 0] 1 [(0, (Value.int IntKind.i64 0))] k w) (fun t54 w =>
  M.gd t50 true (fun k w => M.call Try.prog 31 #[t53, t54, (Value.int IntKind.i64 4)] k w) (fun t55 w =>
  M.gd t50 true (fun k w => M.not t55 k w) (fun t56 w =>
  M.pick t50 t56 (Value.bool false) (fun t57 w =>
  R t57 w) w) w) w) w) w) w) w) w) w) w) w) w) w) w) w) w) w) w) w) w) w) w) w) w) w) w) w) w) w) w) w) w) w) w) w) w) w) w) w) w) w
theorem ok27 (R : Kt) (w : World) (h : sh27 R w) : Ret Try.prog 27 #[] w R :=
  ret_mk <| calls_of_comp mixed (c := Try.f27.body.getD .skip) (args := []) (rs := [(ResultVar.tmp 0)]) (Ann.seq Ann.text (Ann.seq Ann.text (Ann.seq Ann.text (Ann.seq Ann.text (Ann.seq Ann.text Ann.leaf)))))
    Try.func27 (by kernel_rfl) (by kernel_rfl)
    (Eq.mp (by kernel_rfl) h)
/-! breakwater/breakwaterlaw06.UnitCloses: function 5 -/
def sh5 (x0 x1 x2 : Value) (R : Kt) (w : World) : Prop :=
  M.call Try.prog 26 #[x0, (Value.int IntKind.i64 60)] (fun t12 w =>
  M.bin .eql t12 (Value.int IntKind.i64 0) (fun t13 w =>
  M.gd t13 false (fun k w => k x1 w) (fun t15 w =>
  M.gd t13 false (fun k w => M.len t15 k w) (fun t16 w =>
  M.gd t13 false (fun k w => M.bin .gtr t16 (Value.int IntKind.i64 60) k w) (fun t17 w =>
  M.pick t13 (Value.bool true) t17 (fun t18 w =>
  M.cond t18
  (M.call Try.prog 27 #[] (fun t19 w =>
  R t19 w) w)
  (M.call Try.prog 28 #[x0, x1] (fun t23 w =>
  M.extract 0 t23 (fun t24 w =>
  M.extract 1 t23 (fun t25 w =>
  M.call Try.prog 29 #[x0, x1] (fun t29 w =>
  M.extract 0 t29 (fun t30 w =>
  M.extract 1 t29 (fun t31 w =>
  M.call Try.prog 30 #[t24, t30] (fun t34 w =>
  M.gd t34 true (fun k w => k t25 w) (fun t36 w =>
  M.gd t34 true (fun k w => k t31 w) (fun t37 w =>
  M.gd t34 true (fun k w => M.eqB false t36 t37 k w) (fun t38 w =>
  M.pick t34 t38 (Value.bool false) (fun t39 w =>
  M.gd t39 true (fun k w => k x0 w) (fun t41 w =>
  M.gd t39 true (fun k w => k x1 w) (fun t42 w =>
  M.gd t39 true (fun k w => k x2 w) (fun t43 w =>
  M.gd t39 true (fun k w => M.call Try.prog 31 #[t41, t42, t43] k w) (fun t44 w =>
  M.gd t39 true (fun k w => k x0 w) (fun t45 w =>
  M.gd t39 true (fun k w => k x1 w) (fun t46 w =>
  M.gd t39 true (fun k w => k x2 w) (fun t47 w =>
  M.gd t39 true (fun k w => M.call Try.prog 32 #[t45, t46, t47] k w) (fun t48 w =>
  M.gd t39 true (fun k w => M.eqB false t44 t48 k w) (fun t49 w =>
  M.pick t39 t49 (Value.bool false) (fun t50 w =>
  M.gd t50 true (fun k w => M.call Try.prog 27 #[] k w) (fun t52 w =>
  M.pick t50 t52 (Value.bool false) (fun t53 w =>
  R t53 w) w) w) w) w) w) w) w) w) w) w) w) w) w) w) w) w) w) w) w) w) w) w) w)) w) w) w) w) w) w
theorem ok5 (x0 x1 x2 : Value) (R : Kt) (w : World) (h : sh5 x0 x1 x2 R w) : Ret Try.prog 5 #[x0, x1, x2] w R :=
  ret_mk <| calls_of_comp mixed (c := Try.f5.body.getD .skip) (args := [x0, x1, x2]) (rs := [(ResultVar.tmp 6)]) (Ann.seq Ann.text (Ann.seq (Ann.seq Ann.text (Ann.cond (Ann.seq Ann.text Ann.leaf) Ann.leaf)) (Ann.seq Ann.text (Ann.seq Ann.text (Ann.seq Ann.text Ann.leaf)))))
    Try.func5 (by kernel_rfl) (by kernel_rfl)
    (Eq.mp (by kernel_rfl) h)
/-! breakwater/breakwaterlaw06.UnitSound: function 6 -/
def sh6 (x0 x1 x2 : Value) (R : Kt) (w : World) : Prop :=
  M.call Try.prog 26 #[x0, (Value.int IntKind.i64 60)] (fun t12 w =>
  M.bin .eql t12 (Value.int IntKind.i64 0) (fun t13 w =>
  M.gd t13 false (fun k w => k x1 w) (fun t15 w =>
  M.gd t13 false (fun k w => M.len t15 k w) (fun t16 w =>
  M.gd t13 false (fun k w => M.bin .gtr t16 (Value.int IntKind.i64 60) k w) (fun t17 w =>
  M.pick t13 (Value.bool true) t17 (fun t18 w =>
  M.gd t18 false (fun k w => k x2 w) (fun t20 w =>
  M.gd t18 false (fun k w => M.len t20 k w) (fun t21 w =>
  M.gd t18 false (fun k w => M.bin .gtr t21 (Value.int IntKind.i64 1000) k w) (fun t22 w =>
  M.pick t18 (Value.bool true) t22 (fun t23 w =>
  M.cond t23
  (M.call Try.prog 27 #[] (fun t24 w =>
  R t24 w) w)
  (M.call Try.prog 33 #[x0, x2] (fun t27 w =>
  M.bin .geq t27 (Value.int IntKind.i64 0) (fun t28 w =>
  M.cond t28
  (M.call Try.prog 27 #[] (fun t29 w =>
  R t29 w) w)
  (M.loop [(Value.int IntKind.i64 0)] (fun s1 K1 w => ∀ _ : List Value,
  M.len x1 (fun t32 w =>
  M.bin .lss (s1.getD 0 undef) t32 (fun t33 w =>
  M.cond t33
  (M.bin .add (s1.getD 0 undef) (Value.int IntKind.i64 1) (fun t39 w =>
  M.slice 1 x1 (some (s1.getD 0 undef)) (some t39) none (fun t40 w =>
  M.call Try.prog 34 #[t40, x2] (fun t42 w =>
  M.not t42 (fun t43 w =>
  M.cond t43
  (M.call Try.prog 27 #[] (fun t44 w =>
  R t44 w) w)
  (M.bin .add (s1.getD 0 undef) (Value.int IntKind.i64 1) (fun t35 w =>
  K1 [t35] w) w)) w) w) w) w)
  (M.call Try.prog 28 #[x0, x1] (fun t48 w =>
  M.extract 0 t48 (fun t49 w =>
  M.extract 1 t48 (fun t50 w =>
  M.loop [(Value.int IntKind.i64 0)] (fun s2 K2 w => ∀ _ : List Value,
  M.len t49 (fun t53 w =>
  M.bin .lss (s2.getD 0 undef) t53 (fun t54 w =>
  M.cond t54
  (M.bin .add (s2.getD 0 undef) (Value.int IntKind.i64 1) (fun t60 w =>
  M.slice 1 t49 (some (s2.getD 0 undef)) (some t60) none (fun t61 w =>
  M.call Try.prog 34 #[t61, x2] (fun t63 w =>
  M.not t63 (fun t64 w =>
  M.cond t64
  (R (Value.bool false) w)
  (M.bin .add (s2.getD 0 undef) (Value.int IntKind.i64 1) (fun t56 w =>
  K2 [t56] w) w)) w) w) w) w)
  (M.gd t50 true (fun k w => M.call Try.prog 27 #[] k w) (fun t67 w =>
  M.pick t50 t67 (Value.bool false) (fun t68 w =>
  R t68 w) w) w)) w) w) w) w) w) w)) w) w) w)) w) w)) w) w) w) w) w) w) w) w) w) w
theorem ok6 (x0 x1 x2 : Value) (R : Kt) (w : World) (h : sh6 x0 x1 x2 R w) : Ret Try.prog 6 #[x0, x1, x2] w R :=
  ret_mk <| calls_of_comp mixed (c := Try.f6.body.getD .skip) (args := [x0, x1, x2]) (rs := [(ResultVar.tmp 6)]) (Ann.seq Ann.text (Ann.seq (Ann.seq Ann.text (Ann.cond (Ann.seq Ann.text Ann.leaf) Ann.leaf)) (Ann.seq (Ann.seq Ann.text (Ann.cond (Ann.seq Ann.text Ann.leaf) Ann.leaf)) (Ann.seq (Ann.seq Ann.text (Ann.block (Ann.loop [7] [6, 30, 31, 32, 33, 34, 35, 36, 37, 38, 39, 40, 41, 42, 43, 44] (Ann.seq (Ann.seq Ann.text (Ann.cond Ann.leaf Ann.leaf)) (Ann.seq (Ann.block (Ann.seq Ann.text (Ann.cond (Ann.seq Ann.text Ann.leaf) Ann.leaf))) Ann.text))))) (Ann.seq Ann.text (Ann.seq (Ann.seq Ann.text (Ann.block (Ann.loop [10] [6, 51, 52, 53, 54, 55, 56, 57, 58, 59, 60, 61, 62, 63, 64] (Ann.seq (Ann.seq Ann.text (Ann.cond Ann.leaf Ann.leaf)) (Ann.seq (Ann.block (Ann.seq Ann.text (Ann.cond (Ann.seq Ann.text Ann.leaf) Ann.leaf))) Ann.text))))) (Ann.seq Ann.text Ann.leaf)))))))
    Try.func6 (by kernel_rfl) (by kernel_rfl)
    (Eq.mp (by kernel_rfl) h)

instance (l : List (List Int)) (set : List Int) : Decidable (FewL l set) := by unfold FewL; infer_instance
theorem LV.of_blk {w : World} {b n : Nat} {xs : List Int} (h : Blk w b (xs.map vi)) (hn : n = xs.length) : LV vi w (fun _ => True) (.slice (some ⟨b, 0, none⟩) n n) xs := by
  subst hn
  exact ⟨_, _, rfl, Row.of_blk' h trivial, Nat.le_refl _⟩
theorem LL.of_blk {w : World} {b n : Nat} {us : List Value} {l : List (List Int)} (h : Blk w b us) (hn : n = l.length) (hu : us.length = l.length) (ha : ∀ (i : Nat) c, l[i]? = some c → ∃ u, us[i]? = some u ∧ LV vi w (fun _ => True) u c) :
    LL w (fun _ => True) (.slice (some ⟨b, 0, none⟩) n n) l := by
  subst hn
  exact ⟨_, _, us, rfl, ⟨Row.of_blk' h trivial, hu, ha⟩, Nat.le_refl _⟩
theorem LL.nil (w : World) : LL w No (.slice none 0 0) [] := ⟨none, 0, [], rfl, ⟨.inl rfl, rfl, fun i c h => by simp at h⟩, Nat.le_refl _⟩
theorem CloseR.lenU {l : List (List Int)} {set out : List Int} {k : Bool} (h : CloseR l set out k) : out.length ≤ (univ l set).length := by
  rcases h with ⟨_, rfl, _⟩ | ⟨_, _, h3, h4⟩
  · simp
  · have sub : ∀ y ∈ out, y ∈ univ l set := fun y hy => fol_univ ((h4 y).1 hy)
    have key : ∀ (a b : List Int), a.Pairwise (· < ·) → b.Pairwise (· < ·) → (∀ y ∈ a, y ∈ b) → a.length ≤ b.length := by
      intro a
      induction a with
      | nil => intro b _ _ _; simp
      | cons x a ih =>
        intro b ha hb hs
        obtain ⟨a1, a2⟩ := List.pairwise_cons.1 ha
        obtain ⟨p, q, rfl⟩ := List.append_of_mem (hs x List.mem_cons_self)
        have hq : q.Pairwise (· < ·) := (List.pairwise_cons.1 (List.pairwise_append.1 hb).2.1).2
        have := ih q a2 hq (fun y hy => by
          have hxy := a1 y hy
          rcases List.mem_append.1 (hs y (List.mem_cons_of_mem _ hy)) with h | h
          · have := (List.pairwise_append.1 hb).2.2 y h x List.mem_cons_self; omega
          · rcases List.mem_cons.1 h with h | h
            · omega
            · exact h)
        simp; omega
    exact key out (univ l set) h3 (srt_lt _) sub
theorem CloseR.len {l : List (List Int)} {set out : List Int} {k : Bool} (h : CloseR l set out k) (hf : FewL l set) : out.length ≤ 100000000 := Nat.le_trans h.lenU (univ_few hf)
theorem follows_ret {w : World} {D D' : Nat → Prop} {u v : Value} {l : List (List Int)} {set : List Int} (hl : LL w D u l) (hs : LV vi w D' v set) (hf : FewL l set) (hfl : Few l.length) (hI : ∀ c ∈ l, ∀ x ∈ c, I64 x) (hJ : ∀ x ∈ set, I64 x) (x : Int) :
    Ret Try.prog 31 #[u, v, vi x] w (fun r w' => ∃ out k, r = .bool (!k || decide (x ∈ out)) ∧ CloseR l set out k ∧ Keep w w' No) := by
  refine ok31 _ _ _ _ _ ?_
  unfold sh31
  refine M.call_i (close_ret hl hs hf hfl hI hJ) ?_; rintro _ w1 ⟨o, out, k, rfl, hR, g1, k1⟩
  refine M.extract_i rfl ?_
  refine M.extract_i rfl ?_
  refine M.not_i ?_
  have hlen := hR.len hf
  cases k with
  | false =>
    (repeat (first | refine M.len_i ?_ | refine M.nilCheck_i ?_ | refine M.field_i ?_ | refine M.draw_i ?_ | refine M.cap_i ?_ | refine M.gd_tt ?_ | refine M.gd_ff ?_ | refine M.gd_ft ?_ | refine M.gd_tf ?_ | refine M.gd_u ?_ | refine M.pick_t ?_ | refine M.pick_f ?_ | refine M.not_t ?_ | refine M.not_f ?_ | refine M.cond_t ?_ | refine M.cond_f ?_ | refine M.eqNilP_tn ?_ | refine M.eqNilP_ts ?_ | refine M.eqNilP_fn ?_ | refine M.eqNilP_fs ?_ | refine M.eqNilS_tn ?_ | refine M.eqNilS_ts ?_ | refine M.eqNilS_fn ?_ | refine M.eqNilS_fs ?_ | refine M.lss_t (by omega) ?_ | refine M.lss_f (by omega) ?_ | refine M.leq_t (by omega) ?_ | refine M.leq_f (by omega) ?_ | refine M.gtr_t (by omega) ?_ | refine M.gtr_f (by omega) ?_ | refine M.geq_t (by omega) ?_ | refine M.geq_f (by omega) ?_ | refine M.eql_t (by omega) ?_ | refine M.eql_f (by omega) ?_ | refine M.neq_t (by omega) ?_ | refine M.neq_f (by omega) ?_ | refine M.add_i (by omega) (by omega) ?_ | refine M.sub_i (by omega) (by omega) ?_ | refine M.load_i (by assumption) ?_ | refine M.loadB_i (by assumption) rfl ?_ | refine M.st_i (by assumption) ?_ | refine M.stB_i (by assumption) rfl ?_ | refine M.gs_ff ?_ | refine M.gs_tt ?_ | refine M.gs_ft ?_ | refine M.gs_tf ?_ | refine M.stAll_i (by assumption) rfl ?_))
    exact ⟨out, false, by simp, hR, k1⟩
  | true =>
    (repeat (first | refine M.len_i ?_ | refine M.nilCheck_i ?_ | refine M.field_i ?_ | refine M.draw_i ?_ | refine M.cap_i ?_ | refine M.gd_tt ?_ | refine M.gd_ff ?_ | refine M.gd_ft ?_ | refine M.gd_tf ?_ | refine M.gd_u ?_ | refine M.pick_t ?_ | refine M.pick_f ?_ | refine M.not_t ?_ | refine M.not_f ?_ | refine M.cond_t ?_ | refine M.cond_f ?_ | refine M.eqNilP_tn ?_ | refine M.eqNilP_ts ?_ | refine M.eqNilP_fn ?_ | refine M.eqNilP_fs ?_ | refine M.eqNilS_tn ?_ | refine M.eqNilS_ts ?_ | refine M.eqNilS_fn ?_ | refine M.eqNilS_fs ?_ | refine M.lss_t (by omega) ?_ | refine M.lss_f (by omega) ?_ | refine M.leq_t (by omega) ?_ | refine M.leq_f (by omega) ?_ | refine M.gtr_t (by omega) ?_ | refine M.gtr_f (by omega) ?_ | refine M.geq_t (by omega) ?_ | refine M.geq_f (by omega) ?_ | refine M.eql_t (by omega) ?_ | refine M.eql_f (by omega) ?_ | refine M.neq_t (by omega) ?_ | refine M.neq_f (by omega) ?_ | refine M.add_i (by omega) (by omega) ?_ | refine M.sub_i (by omega) (by omega) ?_ | refine M.load_i (by assumption) ?_ | refine M.loadB_i (by assumption) rfl ?_ | refine M.st_i (by assumption) ?_ | refine M.stB_i (by assumption) rfl ?_ | refine M.gs_ff ?_ | refine M.gs_tt ?_ | refine M.gs_ft ?_ | refine M.gs_tf ?_ | refine M.stAll_i (by assumption) rfl ?_))
    refine M.call_i (contains_ret (GI.lv g1) (by omega) x) ?_; rintro _ w2 ⟨rfl, k2⟩
    (repeat (first | refine M.len_i ?_ | refine M.nilCheck_i ?_ | refine M.field_i ?_ | refine M.draw_i ?_ | refine M.cap_i ?_ | refine M.gd_tt ?_ | refine M.gd_ff ?_ | refine M.gd_ft ?_ | refine M.gd_tf ?_ | refine M.gd_u ?_ | refine M.pick_t ?_ | refine M.pick_f ?_ | refine M.not_t ?_ | refine M.not_f ?_ | refine M.cond_t ?_ | refine M.cond_f ?_ | refine M.eqNilP_tn ?_ | refine M.eqNilP_ts ?_ | refine M.eqNilP_fn ?_ | refine M.eqNilP_fs ?_ | refine M.eqNilS_tn ?_ | refine M.eqNilS_ts ?_ | refine M.eqNilS_fn ?_ | refine M.eqNilS_fs ?_ | refine M.lss_t (by omega) ?_ | refine M.lss_f (by omega) ?_ | refine M.leq_t (by omega) ?_ | refine M.leq_f (by omega) ?_ | refine M.gtr_t (by omega) ?_ | refine M.gtr_f (by omega) ?_ | refine M.geq_t (by omega) ?_ | refine M.geq_f (by omega) ?_ | refine M.eql_t (by omega) ?_ | refine M.eql_f (by omega) ?_ | refine M.neq_t (by omega) ?_ | refine M.neq_f (by omega) ?_ | refine M.add_i (by omega) (by omega) ?_ | refine M.sub_i (by omega) (by omega) ?_ | refine M.load_i (by assumption) ?_ | refine M.loadB_i (by assumption) rfl ?_ | refine M.st_i (by assumption) ?_ | refine M.stB_i (by assumption) rfl ?_ | refine M.gs_ff ?_ | refine M.gs_tt ?_ | refine M.gs_ft ?_ | refine M.gs_tf ?_ | refine M.stAll_i (by assumption) rfl ?_))
    exact ⟨out, true, by simp, hR, k1.trans k2 (fun _ _ h => h)⟩
theorem rfollows_ret {w : World} {D D' : Nat → Prop} {u v : Value} {l : List (List Int)} {set : List Int} (hl : LL w D u l) (hs : LV vi w D' v set) (hf : FewL l set) (hfl : Few l.length) (hI : ∀ c ∈ l, ∀ x ∈ c, I64 x) (hJ : ∀ x ∈ set, I64 x) (x : Int) :
    Ret Try.prog 32 #[u, v, vi x] w (fun r w' => ∃ out k, r = .bool (!k || decide (x ∈ out)) ∧ CloseR l set out k ∧ Keep w w' No) := by
  refine ok32 _ _ _ _ _ ?_
  unfold sh32
  refine M.call_i (rclose_ret hl hs hf hfl hI hJ) ?_; rintro _ w1 ⟨o, out, k, rfl, hR, g1, k1⟩
  refine M.extract_i rfl ?_
  refine M.extract_i rfl ?_
  refine M.not_i ?_
  have hlen := hR.len hf
  cases k with
  | false =>
    (repeat (first | refine M.len_i ?_ | refine M.nilCheck_i ?_ | refine M.field_i ?_ | refine M.draw_i ?_ | refine M.cap_i ?_ | refine M.gd_tt ?_ | refine M.gd_ff ?_ | refine M.gd_ft ?_ | refine M.gd_tf ?_ | refine M.gd_u ?_ | refine M.pick_t ?_ | refine M.pick_f ?_ | refine M.not_t ?_ | refine M.not_f ?_ | refine M.cond_t ?_ | refine M.cond_f ?_ | refine M.eqNilP_tn ?_ | refine M.eqNilP_ts ?_ | refine M.eqNilP_fn ?_ | refine M.eqNilP_fs ?_ | refine M.eqNilS_tn ?_ | refine M.eqNilS_ts ?_ | refine M.eqNilS_fn ?_ | refine M.eqNilS_fs ?_ | refine M.lss_t (by omega) ?_ | refine M.lss_f (by omega) ?_ | refine M.leq_t (by omega) ?_ | refine M.leq_f (by omega) ?_ | refine M.gtr_t (by omega) ?_ | refine M.gtr_f (by omega) ?_ | refine M.geq_t (by omega) ?_ | refine M.geq_f (by omega) ?_ | refine M.eql_t (by omega) ?_ | refine M.eql_f (by omega) ?_ | refine M.neq_t (by omega) ?_ | refine M.neq_f (by omega) ?_ | refine M.add_i (by omega) (by omega) ?_ | refine M.sub_i (by omega) (by omega) ?_ | refine M.load_i (by assumption) ?_ | refine M.loadB_i (by assumption) rfl ?_ | refine M.st_i (by assumption) ?_ | refine M.stB_i (by assumption) rfl ?_ | refine M.gs_ff ?_ | refine M.gs_tt ?_ | refine M.gs_ft ?_ | refine M.gs_tf ?_ | refine M.stAll_i (by assumption) rfl ?_))
    exact ⟨out, false, by simp, hR, k1⟩
  | true =>
    (repeat (first | refine M.len_i ?_ | refine M.nilCheck_i ?_ | refine M.field_i ?_ | refine M.draw_i ?_ | refine M.cap_i ?_ | refine M.gd_tt ?_ | refine M.gd_ff ?_ | refine M.gd_ft ?_ | refine M.gd_tf ?_ | refine M.gd_u ?_ | refine M.pick_t ?_ | refine M.pick_f ?_ | refine M.not_t ?_ | refine M.not_f ?_ | refine M.cond_t ?_ | refine M.cond_f ?_ | refine M.eqNilP_tn ?_ | refine M.eqNilP_ts ?_ | refine M.eqNilP_fn ?_ | refine M.eqNilP_fs ?_ | refine M.eqNilS_tn ?_ | refine M.eqNilS_ts ?_ | refine M.eqNilS_fn ?_ | refine M.eqNilS_fs ?_ | refine M.lss_t (by omega) ?_ | refine M.lss_f (by omega) ?_ | refine M.leq_t (by omega) ?_ | refine M.leq_f (by omega) ?_ | refine M.gtr_t (by omega) ?_ | refine M.gtr_f (by omega) ?_ | refine M.geq_t (by omega) ?_ | refine M.geq_f (by omega) ?_ | refine M.eql_t (by omega) ?_ | refine M.eql_f (by omega) ?_ | refine M.neq_t (by omega) ?_ | refine M.neq_f (by omega) ?_ | refine M.add_i (by omega) (by omega) ?_ | refine M.sub_i (by omega) (by omega) ?_ | refine M.load_i (by assumption) ?_ | refine M.loadB_i (by assumption) rfl ?_ | refine M.st_i (by assumption) ?_ | refine M.stB_i (by assumption) rfl ?_ | refine M.gs_ff ?_ | refine M.gs_tt ?_ | refine M.gs_ft ?_ | refine M.gs_tf ?_ | refine M.stAll_i (by assumption) rfl ?_))
    refine M.call_i (has_ret (GI.lv g1) (by omega) x) ?_; rintro _ w2 ⟨rfl, k2⟩
    (repeat (first | refine M.len_i ?_ | refine M.nilCheck_i ?_ | refine M.field_i ?_ | refine M.draw_i ?_ | refine M.cap_i ?_ | refine M.gd_tt ?_ | refine M.gd_ff ?_ | refine M.gd_ft ?_ | refine M.gd_tf ?_ | refine M.gd_u ?_ | refine M.pick_t ?_ | refine M.pick_f ?_ | refine M.not_t ?_ | refine M.not_f ?_ | refine M.cond_t ?_ | refine M.cond_f ?_ | refine M.eqNilP_tn ?_ | refine M.eqNilP_ts ?_ | refine M.eqNilP_fn ?_ | refine M.eqNilP_fs ?_ | refine M.eqNilS_tn ?_ | refine M.eqNilS_ts ?_ | refine M.eqNilS_fn ?_ | refine M.eqNilS_fs ?_ | refine M.lss_t (by omega) ?_ | refine M.lss_f (by omega) ?_ | refine M.leq_t (by omega) ?_ | refine M.leq_f (by omega) ?_ | refine M.gtr_t (by omega) ?_ | refine M.gtr_f (by omega) ?_ | refine M.geq_t (by omega) ?_ | refine M.geq_f (by omega) ?_ | refine M.eql_t (by omega) ?_ | refine M.eql_f (by omega) ?_ | refine M.neq_t (by omega) ?_ | refine M.neq_f (by omega) ?_ | refine M.add_i (by omega) (by omega) ?_ | refine M.sub_i (by omega) (by omega) ?_ | refine M.load_i (by assumption) ?_ | refine M.loadB_i (by assumption) rfl ?_ | refine M.st_i (by assumption) ?_ | refine M.stB_i (by assumption) rfl ?_ | refine M.gs_ff ?_ | refine M.gs_tt ?_ | refine M.gs_ft ?_ | refine M.gs_tf ?_ | refine M.stAll_i (by assumption) rfl ?_))
    exact ⟨out, true, by simp, hR, k1.trans k2 (fun _ _ h => h)⟩
theorem i64_small {xs : List Int} (h : xs.all (fun x => decide (-1000 ≤ x ∧ x ≤ 1000)) = true) : ∀ x ∈ xs, I64 x := fun x hx => by
  have := List.all_eq_true.1 h x hx
  simp at this
  exact ⟨by omega, by omega⟩
theorem i64_smalls {l : List (List Int)} (h : l.all (fun c => c.all (fun x => decide (-1000 ≤ x ∧ x ≤ 1000))) = true) : ∀ c ∈ l, ∀ x ∈ c, I64 x := fun c hc => i64_small (List.all_eq_true.1 h c hc)
theorem two_at {w : World} {D : Nat → Prop} {u v : Value} {c d : List Int} (h1 : LV vi w D u c) (h2 : LV vi w D v d) : ∀ (i : Nat) e, [c, d][i]? = some e → ∃ x, [u, v][i]? = some x ∧ LV vi w D x e := by
  intro i e he
  match i, he with
  | 0, he => simp at he; subst he; exact ⟨u, rfl, h1⟩
  | 1, he => simp at he; subst he; exact ⟨v, rfl, h2⟩
theorem one_at {w : World} {D : Nat → Prop} {u : Value} {c : List Int} (h1 : LV vi w D u c) : ∀ (i : Nat) e, [c][i]? = some e → ∃ x, [u][i]? = some x ∧ LV vi w D x e := by
  intro i e he
  match i, he with
  | 0, he => simp at he; subst he; exact ⟨u, rfl, h1⟩
abbrev slv (b n : Nat) : Value := .slice (some ⟨b, 0, none⟩) n n
set_option maxHeartbeats 4000000 in
theorem awake_ret (w : World) : Ret Try.prog 27 #[] w (fun v w' => v = .bool true ∧ Keep w w' No) := by
  refine ok27 _ _ ?_
  unfold sh27
  refine M.buildSlice_i [vi 1, vi 2] (by kernel_rfl) (fun w1 b1 k1 s1 => ?_)
  refine M.buildSlice_i [vi 3, vi 4] (by kernel_rfl) (fun w2 b2 k2 s2 => ?_)
  refine M.buildSlice_i [slv w.heap.size 2, slv w1.heap.size 2] (by kernel_rfl) (fun w3 b3 k3 s3 => ?_)
  refine M.buildSlice_i [vi 0] (by kernel_rfl) (fun w4 b4 k4 s4 => ?_)
  have b1 := ((b1.keep k2 (fun h => h)).keep k3 (fun h => h)).keep k4 (fun h => h)
  have b2 := (b2.keep k3 (fun h => h)).keep k4 (fun h => h)
  have b3 := b3.keep k4 (fun h => h)
  have k := ((k1.trans k2 (fun _ _ h => h)).trans k3 (fun _ _ h => h)).trans k4 (fun _ _ h => h)
  refine M.call_i (close_ret (LL.of_blk (l := [[1, 2], [3, 4]]) b3 rfl rfl (two_at (LV.of_blk b1 rfl) (LV.of_blk b2 rfl))) (LV.of_blk (xs := [0]) b4 rfl) (by decide) (by decide) (i64_smalls rfl) (i64_small rfl)) ?_; rintro _ w5 ⟨o5, out5, kk5, rfl, hR5, g5, k5⟩
  obtain ⟨rfl, rfl⟩ := hR5.uniq (closeB (s := [0, 2, 4]) (by decide) (by decide))
  rw [show srt [0, 2, 4] = [0, 2, 4] by decide] at g5
  have k := k.trans k5 (fun _ _ h => h)
  refine M.extract_i rfl ?_
  refine M.extract_i rfl ?_
  refine M.buildSlice_i [vi 0] (by kernel_rfl) (fun w6 b6 k6 s6 => ?_)
  refine M.buildSlice_i [vi 1] (by kernel_rfl) (fun w7 b7 k7 s7 => ?_)
  refine M.buildSlice_i [slv w5.heap.size 1, slv w6.heap.size 1] (by kernel_rfl) (fun w8 b8 k8 s8 => ?_)
  have b6 := (b6.keep k7 (fun h => h)).keep k8 (fun h => h)
  have b7 := b7.keep k8 (fun h => h)
  have k68 := (k6.trans k7 (fun _ _ h => h)).trans k8 (fun _ _ h => h)
  have k := k.trans k68 (fun _ _ h => h)
  have g5 := g5.keep k68 (fun _ _ _ h => h)
  refine M.call_i (close_ret (LL.of_blk (l := [[0], [1]]) b8 rfl rfl (two_at (LV.of_blk b6 rfl) (LV.of_blk b7 rfl))) (LV.nil vi w8 No) (by decide) (by decide) (i64_smalls rfl) (i64_small rfl)) ?_; rintro _ w9 ⟨o9, out9, kk9, rfl, hR9, g9, k9⟩
  obtain ⟨rfl, rfl⟩ := hR9.uniq (botB (s := [0]) (by decide) (by decide))
  have k := k.trans k9 (fun _ _ h => h)
  have g5 := g5.keep k9 (fun _ _ _ h => h)
  refine M.extract_i rfl ?_
  refine M.extract_i rfl ?_
  refine M.buildSlice_i [vi 5, vi 5, vi (-1)] (by kernel_rfl) (fun w10 b10 k10 s10 => ?_)
  have k := k.trans k10 (fun _ _ h => h)
  have g5 := g5.keep k10 (fun _ _ _ h => h)
  refine M.call_i (close_ret (LL.nil w10) (LV.of_blk (xs := [5, 5, -1]) b10 rfl) (by decide) (by decide) (i64_smalls rfl) (i64_small rfl)) ?_; rintro _ w11 ⟨o11, out11, kk11, rfl, hR11, g11, k11⟩
  obtain ⟨rfl, rfl⟩ := hR11.uniq (closeB (s := [5]) (by decide) (by decide))
  rw [show srt [5] = [5] by decide] at g11
  have k := k.trans k11 (fun _ _ h => h)
  have g5 := g5.keep k11 (fun _ _ _ h => h)
  refine M.extract_i rfl ?_
  refine M.extract_i rfl ?_
  refine M.buildSlice_i [vi 0, vi 2, vi 4] (by kernel_rfl) (fun w12 b12 k12 s12 => ?_)
  have k := k.trans k12 (fun _ _ h => h)
  have g5 := g5.keep k12 (fun _ _ _ h => h)
  have g11 := g11.keep k12 (fun _ _ _ h => h)
  refine M.call_i (same_ret (GI.lv g5) (LV.of_blk (xs := [0, 2, 4]) b12 rfl) (by decide)) ?_; rintro _ w13 ⟨rfl, k13⟩
  have k := k.trans k13 (fun _ _ h => h)
  have g11 := g11.keep k13 (fun _ _ _ h => h)
  rw [show decide (([0, 2, 4] : List Int) = [0, 2, 4]) = true by decide]
  (repeat (first | refine M.len_i ?_ | refine M.nilCheck_i ?_ | refine M.field_i ?_ | refine M.draw_i ?_ | refine M.cap_i ?_ | refine M.gd_tt ?_ | refine M.gd_ff ?_ | refine M.gd_ft ?_ | refine M.gd_tf ?_ | refine M.gd_u ?_ | refine M.pick_t ?_ | refine M.pick_f ?_ | refine M.not_t ?_ | refine M.not_f ?_ | refine M.cond_t ?_ | refine M.cond_f ?_ | refine M.eqNilP_tn ?_ | refine M.eqNilP_ts ?_ | refine M.eqNilP_fn ?_ | refine M.eqNilP_fs ?_ | refine M.eqNilS_tn ?_ | refine M.eqNilS_ts ?_ | refine M.eqNilS_fn ?_ | refine M.eqNilS_fs ?_ | refine M.lss_t (by omega) ?_ | refine M.lss_f (by omega) ?_ | refine M.leq_t (by omega) ?_ | refine M.leq_f (by omega) ?_ | refine M.gtr_t (by omega) ?_ | refine M.gtr_f (by omega) ?_ | refine M.geq_t (by omega) ?_ | refine M.geq_f (by omega) ?_ | refine M.eql_t (by omega) ?_ | refine M.eql_f (by omega) ?_ | refine M.neq_t (by omega) ?_ | refine M.neq_f (by omega) ?_ | refine M.add_i (by omega) (by omega) ?_ | refine M.sub_i (by omega) (by omega) ?_ | refine M.load_i (by assumption) ?_ | refine M.loadB_i (by assumption) rfl ?_ | refine M.st_i (by assumption) ?_ | refine M.stB_i (by assumption) rfl ?_ | refine M.gs_ff ?_ | refine M.gs_tt ?_ | refine M.gs_ft ?_ | refine M.gs_tf ?_ | refine M.stAll_i (by assumption) rfl ?_))
  refine M.buildSlice_i [vi 5] (by kernel_rfl) (fun w14 b14 k14 s14 => ?_)
  have k := k.trans k14 (fun _ _ h => h)
  have g11 := g11.keep k14 (fun _ _ _ h => h)
  (repeat (first | refine M.len_i ?_ | refine M.nilCheck_i ?_ | refine M.field_i ?_ | refine M.draw_i ?_ | refine M.cap_i ?_ | refine M.gd_tt ?_ | refine M.gd_ff ?_ | refine M.gd_ft ?_ | refine M.gd_tf ?_ | refine M.gd_u ?_ | refine M.pick_t ?_ | refine M.pick_f ?_ | refine M.not_t ?_ | refine M.not_f ?_ | refine M.cond_t ?_ | refine M.cond_f ?_ | refine M.eqNilP_tn ?_ | refine M.eqNilP_ts ?_ | refine M.eqNilP_fn ?_ | refine M.eqNilP_fs ?_ | refine M.eqNilS_tn ?_ | refine M.eqNilS_ts ?_ | refine M.eqNilS_fn ?_ | refine M.eqNilS_fs ?_ | refine M.lss_t (by omega) ?_ | refine M.lss_f (by omega) ?_ | refine M.leq_t (by omega) ?_ | refine M.leq_f (by omega) ?_ | refine M.gtr_t (by omega) ?_ | refine M.gtr_f (by omega) ?_ | refine M.geq_t (by omega) ?_ | refine M.geq_f (by omega) ?_ | refine M.eql_t (by omega) ?_ | refine M.eql_f (by omega) ?_ | refine M.neq_t (by omega) ?_ | refine M.neq_f (by omega) ?_ | refine M.add_i (by omega) (by omega) ?_ | refine M.sub_i (by omega) (by omega) ?_ | refine M.load_i (by assumption) ?_ | refine M.loadB_i (by assumption) rfl ?_ | refine M.st_i (by assumption) ?_ | refine M.stB_i (by assumption) rfl ?_ | refine M.gs_ff ?_ | refine M.gs_tt ?_ | refine M.gs_ft ?_ | refine M.gs_tf ?_ | refine M.stAll_i (by assumption) rfl ?_))
  refine M.call_i (same_ret (GI.lv g11) (LV.of_blk (xs := [5]) b14 rfl) (by decide)) ?_; rintro _ w15 ⟨rfl, k15⟩
  have k := k.trans k15 (fun _ _ h => h)
  rw [show decide (([5] : List Int) = [5]) = true by decide]
  (repeat (first | refine M.len_i ?_ | refine M.nilCheck_i ?_ | refine M.field_i ?_ | refine M.draw_i ?_ | refine M.cap_i ?_ | refine M.gd_tt ?_ | refine M.gd_ff ?_ | refine M.gd_ft ?_ | refine M.gd_tf ?_ | refine M.gd_u ?_ | refine M.pick_t ?_ | refine M.pick_f ?_ | refine M.not_t ?_ | refine M.not_f ?_ | refine M.cond_t ?_ | refine M.cond_f ?_ | refine M.eqNilP_tn ?_ | refine M.eqNilP_ts ?_ | refine M.eqNilP_fn ?_ | refine M.eqNilP_fs ?_ | refine M.eqNilS_tn ?_ | refine M.eqNilS_ts ?_ | refine M.eqNilS_fn ?_ | refine M.eqNilS_fs ?_ | refine M.lss_t (by omega) ?_ | refine M.lss_f (by omega) ?_ | refine M.leq_t (by omega) ?_ | refine M.leq_f (by omega) ?_ | refine M.gtr_t (by omega) ?_ | refine M.gtr_f (by omega) ?_ | refine M.geq_t (by omega) ?_ | refine M.geq_f (by omega) ?_ | refine M.eql_t (by omega) ?_ | refine M.eql_f (by omega) ?_ | refine M.neq_t (by omega) ?_ | refine M.neq_f (by omega) ?_ | refine M.add_i (by omega) (by omega) ?_ | refine M.sub_i (by omega) (by omega) ?_ | refine M.load_i (by assumption) ?_ | refine M.loadB_i (by assumption) rfl ?_ | refine M.st_i (by assumption) ?_ | refine M.stB_i (by assumption) rfl ?_ | refine M.gs_ff ?_ | refine M.gs_tt ?_ | refine M.gs_ft ?_ | refine M.gs_tf ?_ | refine M.stAll_i (by assumption) rfl ?_))
  refine M.buildSlice_i [vi 1, vi 2] (by kernel_rfl) (fun w16 b16 k16 s16 => ?_)
  (repeat (first | refine M.len_i ?_ | refine M.nilCheck_i ?_ | refine M.field_i ?_ | refine M.draw_i ?_ | refine M.cap_i ?_ | refine M.gd_tt ?_ | refine M.gd_ff ?_ | refine M.gd_ft ?_ | refine M.gd_tf ?_ | refine M.gd_u ?_ | refine M.pick_t ?_ | refine M.pick_f ?_ | refine M.not_t ?_ | refine M.not_f ?_ | refine M.cond_t ?_ | refine M.cond_f ?_ | refine M.eqNilP_tn ?_ | refine M.eqNilP_ts ?_ | refine M.eqNilP_fn ?_ | refine M.eqNilP_fs ?_ | refine M.eqNilS_tn ?_ | refine M.eqNilS_ts ?_ | refine M.eqNilS_fn ?_ | refine M.eqNilS_fs ?_ | refine M.lss_t (by omega) ?_ | refine M.lss_f (by omega) ?_ | refine M.leq_t (by omega) ?_ | refine M.leq_f (by omega) ?_ | refine M.gtr_t (by omega) ?_ | refine M.gtr_f (by omega) ?_ | refine M.geq_t (by omega) ?_ | refine M.geq_f (by omega) ?_ | refine M.eql_t (by omega) ?_ | refine M.eql_f (by omega) ?_ | refine M.neq_t (by omega) ?_ | refine M.neq_f (by omega) ?_ | refine M.add_i (by omega) (by omega) ?_ | refine M.sub_i (by omega) (by omega) ?_ | refine M.load_i (by assumption) ?_ | refine M.loadB_i (by assumption) rfl ?_ | refine M.st_i (by assumption) ?_ | refine M.stB_i (by assumption) rfl ?_ | refine M.gs_ff ?_ | refine M.gs_tt ?_ | refine M.gs_ft ?_ | refine M.gs_tf ?_ | refine M.stAll_i (by assumption) rfl ?_))
  refine M.buildSlice_i [slv w15.heap.size 2] (by kernel_rfl) (fun w17 b17 k17 s17 => ?_)
  (repeat (first | refine M.len_i ?_ | refine M.nilCheck_i ?_ | refine M.field_i ?_ | refine M.draw_i ?_ | refine M.cap_i ?_ | refine M.gd_tt ?_ | refine M.gd_ff ?_ | refine M.gd_ft ?_ | refine M.gd_tf ?_ | refine M.gd_u ?_ | refine M.pick_t ?_ | refine M.pick_f ?_ | refine M.not_t ?_ | refine M.not_f ?_ | refine M.cond_t ?_ | refine M.cond_f ?_ | refine M.eqNilP_tn ?_ | refine M.eqNilP_ts ?_ | refine M.eqNilP_fn ?_ | refine M.eqNilP_fs ?_ | refine M.eqNilS_tn ?_ | refine M.eqNilS_ts ?_ | refine M.eqNilS_fn ?_ | refine M.eqNilS_fs ?_ | refine M.lss_t (by omega) ?_ | refine M.lss_f (by omega) ?_ | refine M.leq_t (by omega) ?_ | refine M.leq_f (by omega) ?_ | refine M.gtr_t (by omega) ?_ | refine M.gtr_f (by omega) ?_ | refine M.geq_t (by omega) ?_ | refine M.geq_f (by omega) ?_ | refine M.eql_t (by omega) ?_ | refine M.eql_f (by omega) ?_ | refine M.neq_t (by omega) ?_ | refine M.neq_f (by omega) ?_ | refine M.add_i (by omega) (by omega) ?_ | refine M.sub_i (by omega) (by omega) ?_ | refine M.load_i (by assumption) ?_ | refine M.loadB_i (by assumption) rfl ?_ | refine M.st_i (by assumption) ?_ | refine M.stB_i (by assumption) rfl ?_ | refine M.gs_ff ?_ | refine M.gs_tt ?_ | refine M.gs_ft ?_ | refine M.gs_tf ?_ | refine M.stAll_i (by assumption) rfl ?_))
  refine M.buildSlice_i [vi 0] (by kernel_rfl) (fun w18 b18 k18 s18 => ?_)
  have b16 := (b16.keep k17 (fun h => h)).keep k18 (fun h => h)
  have b17 := b17.keep k18 (fun h => h)
  have k := ((k.trans k16 (fun _ _ h => h)).trans k17 (fun _ _ h => h)).trans k18 (fun _ _ h => h)
  (repeat (first | refine M.len_i ?_ | refine M.nilCheck_i ?_ | refine M.field_i ?_ | refine M.draw_i ?_ | refine M.cap_i ?_ | refine M.gd_tt ?_ | refine M.gd_ff ?_ | refine M.gd_ft ?_ | refine M.gd_tf ?_ | refine M.gd_u ?_ | refine M.pick_t ?_ | refine M.pick_f ?_ | refine M.not_t ?_ | refine M.not_f ?_ | refine M.cond_t ?_ | refine M.cond_f ?_ | refine M.eqNilP_tn ?_ | refine M.eqNilP_ts ?_ | refine M.eqNilP_fn ?_ | refine M.eqNilP_fs ?_ | refine M.eqNilS_tn ?_ | refine M.eqNilS_ts ?_ | refine M.eqNilS_fn ?_ | refine M.eqNilS_fs ?_ | refine M.lss_t (by omega) ?_ | refine M.lss_f (by omega) ?_ | refine M.leq_t (by omega) ?_ | refine M.leq_f (by omega) ?_ | refine M.gtr_t (by omega) ?_ | refine M.gtr_f (by omega) ?_ | refine M.geq_t (by omega) ?_ | refine M.geq_f (by omega) ?_ | refine M.eql_t (by omega) ?_ | refine M.eql_f (by omega) ?_ | refine M.neq_t (by omega) ?_ | refine M.neq_f (by omega) ?_ | refine M.add_i (by omega) (by omega) ?_ | refine M.sub_i (by omega) (by omega) ?_ | refine M.load_i (by assumption) ?_ | refine M.loadB_i (by assumption) rfl ?_ | refine M.st_i (by assumption) ?_ | refine M.stB_i (by assumption) rfl ?_ | refine M.gs_ff ?_ | refine M.gs_tt ?_ | refine M.gs_ft ?_ | refine M.gs_tf ?_ | refine M.stAll_i (by assumption) rfl ?_))
  refine M.call_i (follows_ret (LL.of_blk (l := [[1, 2]]) b17 rfl rfl (one_at (LV.of_blk b16 rfl))) (LV.of_blk (xs := [0]) b18 rfl) (by decide) (by decide) (i64_smalls rfl) (i64_small rfl) 2) ?_; rintro _ w19 ⟨out19, kk19, rfl, hR19, k19⟩
  obtain ⟨rfl, rfl⟩ := hR19.uniq (closeB (s := [0, 2]) (by decide) (by decide))
  rw [show (!true || decide ((2 : Int) ∈ srt [0, 2])) = true by decide]
  have k := k.trans k19 (fun _ _ h => h)
  (repeat (first | refine M.len_i ?_ | refine M.nilCheck_i ?_ | refine M.field_i ?_ | refine M.draw_i ?_ | refine M.cap_i ?_ | refine M.gd_tt ?_ | refine M.gd_ff ?_ | refine M.gd_ft ?_ | refine M.gd_tf ?_ | refine M.gd_u ?_ | refine M.pick_t ?_ | refine M.pick_f ?_ | refine M.not_t ?_ | refine M.not_f ?_ | refine M.cond_t ?_ | refine M.cond_f ?_ | refine M.eqNilP_tn ?_ | refine M.eqNilP_ts ?_ | refine M.eqNilP_fn ?_ | refine M.eqNilP_fs ?_ | refine M.eqNilS_tn ?_ | refine M.eqNilS_ts ?_ | refine M.eqNilS_fn ?_ | refine M.eqNilS_fs ?_ | refine M.lss_t (by omega) ?_ | refine M.lss_f (by omega) ?_ | refine M.leq_t (by omega) ?_ | refine M.leq_f (by omega) ?_ | refine M.gtr_t (by omega) ?_ | refine M.gtr_f (by omega) ?_ | refine M.geq_t (by omega) ?_ | refine M.geq_f (by omega) ?_ | refine M.eql_t (by omega) ?_ | refine M.eql_f (by omega) ?_ | refine M.neq_t (by omega) ?_ | refine M.neq_f (by omega) ?_ | refine M.add_i (by omega) (by omega) ?_ | refine M.sub_i (by omega) (by omega) ?_ | refine M.load_i (by assumption) ?_ | refine M.loadB_i (by assumption) rfl ?_ | refine M.st_i (by assumption) ?_ | refine M.stB_i (by assumption) rfl ?_ | refine M.gs_ff ?_ | refine M.gs_tt ?_ | refine M.gs_ft ?_ | refine M.gs_tf ?_ | refine M.stAll_i (by assumption) rfl ?_))
  refine M.buildSlice_i [vi 1, vi 2] (by kernel_rfl) (fun w20 b20 k20 s20 => ?_)
  (repeat (first | refine M.len_i ?_ | refine M.nilCheck_i ?_ | refine M.field_i ?_ | refine M.draw_i ?_ | refine M.cap_i ?_ | refine M.gd_tt ?_ | refine M.gd_ff ?_ | refine M.gd_ft ?_ | refine M.gd_tf ?_ | refine M.gd_u ?_ | refine M.pick_t ?_ | refine M.pick_f ?_ | refine M.not_t ?_ | refine M.not_f ?_ | refine M.cond_t ?_ | refine M.cond_f ?_ | refine M.eqNilP_tn ?_ | refine M.eqNilP_ts ?_ | refine M.eqNilP_fn ?_ | refine M.eqNilP_fs ?_ | refine M.eqNilS_tn ?_ | refine M.eqNilS_ts ?_ | refine M.eqNilS_fn ?_ | refine M.eqNilS_fs ?_ | refine M.lss_t (by omega) ?_ | refine M.lss_f (by omega) ?_ | refine M.leq_t (by omega) ?_ | refine M.leq_f (by omega) ?_ | refine M.gtr_t (by omega) ?_ | refine M.gtr_f (by omega) ?_ | refine M.geq_t (by omega) ?_ | refine M.geq_f (by omega) ?_ | refine M.eql_t (by omega) ?_ | refine M.eql_f (by omega) ?_ | refine M.neq_t (by omega) ?_ | refine M.neq_f (by omega) ?_ | refine M.add_i (by omega) (by omega) ?_ | refine M.sub_i (by omega) (by omega) ?_ | refine M.load_i (by assumption) ?_ | refine M.loadB_i (by assumption) rfl ?_ | refine M.st_i (by assumption) ?_ | refine M.stB_i (by assumption) rfl ?_ | refine M.gs_ff ?_ | refine M.gs_tt ?_ | refine M.gs_ft ?_ | refine M.gs_tf ?_ | refine M.stAll_i (by assumption) rfl ?_))
  refine M.buildSlice_i [slv w19.heap.size 2] (by kernel_rfl) (fun w21 b21 k21 s21 => ?_)
  (repeat (first | refine M.len_i ?_ | refine M.nilCheck_i ?_ | refine M.field_i ?_ | refine M.draw_i ?_ | refine M.cap_i ?_ | refine M.gd_tt ?_ | refine M.gd_ff ?_ | refine M.gd_ft ?_ | refine M.gd_tf ?_ | refine M.gd_u ?_ | refine M.pick_t ?_ | refine M.pick_f ?_ | refine M.not_t ?_ | refine M.not_f ?_ | refine M.cond_t ?_ | refine M.cond_f ?_ | refine M.eqNilP_tn ?_ | refine M.eqNilP_ts ?_ | refine M.eqNilP_fn ?_ | refine M.eqNilP_fs ?_ | refine M.eqNilS_tn ?_ | refine M.eqNilS_ts ?_ | refine M.eqNilS_fn ?_ | refine M.eqNilS_fs ?_ | refine M.lss_t (by omega) ?_ | refine M.lss_f (by omega) ?_ | refine M.leq_t (by omega) ?_ | refine M.leq_f (by omega) ?_ | refine M.gtr_t (by omega) ?_ | refine M.gtr_f (by omega) ?_ | refine M.geq_t (by omega) ?_ | refine M.geq_f (by omega) ?_ | refine M.eql_t (by omega) ?_ | refine M.eql_f (by omega) ?_ | refine M.neq_t (by omega) ?_ | refine M.neq_f (by omega) ?_ | refine M.add_i (by omega) (by omega) ?_ | refine M.sub_i (by omega) (by omega) ?_ | refine M.load_i (by assumption) ?_ | refine M.loadB_i (by assumption) rfl ?_ | refine M.st_i (by assumption) ?_ | refine M.stB_i (by assumption) rfl ?_ | refine M.gs_ff ?_ | refine M.gs_tt ?_ | refine M.gs_ft ?_ | refine M.gs_tf ?_ | refine M.stAll_i (by assumption) rfl ?_))
  refine M.buildSlice_i [vi 0] (by kernel_rfl) (fun w22 b22 k22 s22 => ?_)
  have b20 := (b20.keep k21 (fun h => h)).keep k22 (fun h => h)
  have b21 := b21.keep k22 (fun h => h)
  have k := ((k.trans k20 (fun _ _ h => h)).trans k21 (fun _ _ h => h)).trans k22 (fun _ _ h => h)
  (repeat (first | refine M.len_i ?_ | refine M.nilCheck_i ?_ | refine M.field_i ?_ | refine M.draw_i ?_ | refine M.cap_i ?_ | refine M.gd_tt ?_ | refine M.gd_ff ?_ | refine M.gd_ft ?_ | refine M.gd_tf ?_ | refine M.gd_u ?_ | refine M.pick_t ?_ | refine M.pick_f ?_ | refine M.not_t ?_ | refine M.not_f ?_ | refine M.cond_t ?_ | refine M.cond_f ?_ | refine M.eqNilP_tn ?_ | refine M.eqNilP_ts ?_ | refine M.eqNilP_fn ?_ | refine M.eqNilP_fs ?_ | refine M.eqNilS_tn ?_ | refine M.eqNilS_ts ?_ | refine M.eqNilS_fn ?_ | refine M.eqNilS_fs ?_ | refine M.lss_t (by omega) ?_ | refine M.lss_f (by omega) ?_ | refine M.leq_t (by omega) ?_ | refine M.leq_f (by omega) ?_ | refine M.gtr_t (by omega) ?_ | refine M.gtr_f (by omega) ?_ | refine M.geq_t (by omega) ?_ | refine M.geq_f (by omega) ?_ | refine M.eql_t (by omega) ?_ | refine M.eql_f (by omega) ?_ | refine M.neq_t (by omega) ?_ | refine M.neq_f (by omega) ?_ | refine M.add_i (by omega) (by omega) ?_ | refine M.sub_i (by omega) (by omega) ?_ | refine M.load_i (by assumption) ?_ | refine M.loadB_i (by assumption) rfl ?_ | refine M.st_i (by assumption) ?_ | refine M.stB_i (by assumption) rfl ?_ | refine M.gs_ff ?_ | refine M.gs_tt ?_ | refine M.gs_ft ?_ | refine M.gs_tf ?_ | refine M.stAll_i (by assumption) rfl ?_))
  refine M.call_i (follows_ret (LL.of_blk (l := [[1, 2]]) b21 rfl rfl (one_at (LV.of_blk b20 rfl))) (LV.of_blk (xs := [0]) b22 rfl) (by decide) (by decide) (i64_smalls rfl) (i64_small rfl) 4) ?_; rintro _ w23 ⟨out23, kk23, rfl, hR23, k23⟩
  obtain ⟨rfl, rfl⟩ := hR23.uniq (closeB (s := [0, 2]) (by decide) (by decide))
  rw [show (!true || decide ((4 : Int) ∈ srt [0, 2])) = false by decide]
  (repeat (first | refine M.len_i ?_ | refine M.nilCheck_i ?_ | refine M.field_i ?_ | refine M.draw_i ?_ | refine M.cap_i ?_ | refine M.gd_tt ?_ | refine M.gd_ff ?_ | refine M.gd_ft ?_ | refine M.gd_tf ?_ | refine M.gd_u ?_ | refine M.pick_t ?_ | refine M.pick_f ?_ | refine M.not_t ?_ | refine M.not_f ?_ | refine M.cond_t ?_ | refine M.cond_f ?_ | refine M.eqNilP_tn ?_ | refine M.eqNilP_ts ?_ | refine M.eqNilP_fn ?_ | refine M.eqNilP_fs ?_ | refine M.eqNilS_tn ?_ | refine M.eqNilS_ts ?_ | refine M.eqNilS_fn ?_ | refine M.eqNilS_fs ?_ | refine M.lss_t (by omega) ?_ | refine M.lss_f (by omega) ?_ | refine M.leq_t (by omega) ?_ | refine M.leq_f (by omega) ?_ | refine M.gtr_t (by omega) ?_ | refine M.gtr_f (by omega) ?_ | refine M.geq_t (by omega) ?_ | refine M.geq_f (by omega) ?_ | refine M.eql_t (by omega) ?_ | refine M.eql_f (by omega) ?_ | refine M.neq_t (by omega) ?_ | refine M.neq_f (by omega) ?_ | refine M.add_i (by omega) (by omega) ?_ | refine M.sub_i (by omega) (by omega) ?_ | refine M.load_i (by assumption) ?_ | refine M.loadB_i (by assumption) rfl ?_ | refine M.st_i (by assumption) ?_ | refine M.stB_i (by assumption) rfl ?_ | refine M.gs_ff ?_ | refine M.gs_tt ?_ | refine M.gs_ft ?_ | refine M.gs_tf ?_ | refine M.stAll_i (by assumption) rfl ?_))
  exact ⟨rfl, k.trans k23 (fun _ _ h => h)⟩
theorem fewL_of {l : List (List Int)} {set : List Int} {most : Int} (h : fewB l most = true) (hm : most ≤ 1000) (hs : set.length ≤ 1000) : FewL l set ∧ Few l.length ∧ ∀ c ∈ l, c.length ≤ 40 := by
  obtain ⟨h1, h2⟩ := fewB_few h
  refine ⟨?_, by omega, fun c hc => ?_⟩
  · unfold FewL
    rw [List.length_append]
    omega
  · unfold fewB at h
    simp only [Bool.and_eq_true, decide_eq_true_eq, List.all_eq_true] at h
    exact h.2 c hc
theorem unitCloses_ret {w : World} {D D' : Nat → Prop} {u v : Value} {l : List (List Int)} {set : List Int} (hl : LL w D u l) (hs : LV vi w D' v set) (hI : ∀ c ∈ l, ∀ x ∈ c, I64 x) (hJ : ∀ x ∈ set, I64 x) (x : Int) :
    Ret Try.prog 5 #[u, v, vi x] w (fun v w' => v = .bool true ∧ Keep w w' No) := by
  obtain ⟨B, cq, rfl, _, _⟩ := id hs
  refine ok5 _ _ _ _ _ ?_
  unfold sh5
  refine M.call_i (few_ret hl 60 (by omega)) ?_; rintro _ w1 ⟨rfl, k1⟩
  cases hfb : fewB l 60 with
  | false =>
    (repeat (first | refine M.len_i ?_ | refine M.nilCheck_i ?_ | refine M.field_i ?_ | refine M.draw_i ?_ | refine M.cap_i ?_ | refine M.gd_tt ?_ | refine M.gd_ff ?_ | refine M.gd_ft ?_ | refine M.gd_tf ?_ | refine M.gd_u ?_ | refine M.pick_t ?_ | refine M.pick_f ?_ | refine M.not_t ?_ | refine M.not_f ?_ | refine M.cond_t ?_ | refine M.cond_f ?_ | refine M.eqNilP_tn ?_ | refine M.eqNilP_ts ?_ | refine M.eqNilP_fn ?_ | refine M.eqNilP_fs ?_ | refine M.eqNilS_tn ?_ | refine M.eqNilS_ts ?_ | refine M.eqNilS_fn ?_ | refine M.eqNilS_fs ?_ | refine M.lss_t (by omega) ?_ | refine M.lss_f (by omega) ?_ | refine M.leq_t (by omega) ?_ | refine M.leq_f (by omega) ?_ | refine M.gtr_t (by omega) ?_ | refine M.gtr_f (by omega) ?_ | refine M.geq_t (by omega) ?_ | refine M.geq_f (by omega) ?_ | refine M.eql_t (by omega) ?_ | refine M.eql_f (by omega) ?_ | refine M.neq_t (by omega) ?_ | refine M.neq_f (by omega) ?_ | refine M.add_i (by omega) (by omega) ?_ | refine M.sub_i (by omega) (by omega) ?_ | refine M.load_i (by assumption) ?_ | refine M.loadB_i (by assumption) rfl ?_ | refine M.st_i (by assumption) ?_ | refine M.stB_i (by assumption) rfl ?_ | refine M.gs_ff ?_ | refine M.gs_tt ?_ | refine M.gs_ft ?_ | refine M.gs_tf ?_ | refine M.stAll_i (by assumption) rfl ?_ | refine M.eql_t (by decide) ?_ | refine M.eql_f (by decide) ?_ | refine M.neq_t (by decide) ?_ | refine M.neq_f (by decide) ?_ | refine M.gtr_t (by decide) ?_ | refine M.lss_t (by decide) ?_))
    refine M.call_i (awake_ret w1) ?_; rintro _ w2 ⟨rfl, k2⟩
    exact ⟨rfl, k1.trans k2 (fun _ _ h => h)⟩
  | true =>
    simp only [if_true]
    by_cases h60 : 60 < set.length
    · (repeat (first | refine M.len_i ?_ | refine M.nilCheck_i ?_ | refine M.field_i ?_ | refine M.draw_i ?_ | refine M.cap_i ?_ | refine M.gd_tt ?_ | refine M.gd_ff ?_ | refine M.gd_ft ?_ | refine M.gd_tf ?_ | refine M.gd_u ?_ | refine M.pick_t ?_ | refine M.pick_f ?_ | refine M.not_t ?_ | refine M.not_f ?_ | refine M.cond_t ?_ | refine M.cond_f ?_ | refine M.eqNilP_tn ?_ | refine M.eqNilP_ts ?_ | refine M.eqNilP_fn ?_ | refine M.eqNilP_fs ?_ | refine M.eqNilS_tn ?_ | refine M.eqNilS_ts ?_ | refine M.eqNilS_fn ?_ | refine M.eqNilS_fs ?_ | refine M.lss_t (by omega) ?_ | refine M.lss_f (by omega) ?_ | refine M.leq_t (by omega) ?_ | refine M.leq_f (by omega) ?_ | refine M.gtr_t (by omega) ?_ | refine M.gtr_f (by omega) ?_ | refine M.geq_t (by omega) ?_ | refine M.geq_f (by omega) ?_ | refine M.eql_t (by omega) ?_ | refine M.eql_f (by omega) ?_ | refine M.neq_t (by omega) ?_ | refine M.neq_f (by omega) ?_ | refine M.add_i (by omega) (by omega) ?_ | refine M.sub_i (by omega) (by omega) ?_ | refine M.load_i (by assumption) ?_ | refine M.loadB_i (by assumption) rfl ?_ | refine M.st_i (by assumption) ?_ | refine M.stB_i (by assumption) rfl ?_ | refine M.gs_ff ?_ | refine M.gs_tt ?_ | refine M.gs_ft ?_ | refine M.gs_tf ?_ | refine M.stAll_i (by assumption) rfl ?_ | refine M.eql_t (by decide) ?_ | refine M.eql_f (by decide) ?_ | refine M.neq_t (by decide) ?_ | refine M.neq_f (by decide) ?_ | refine M.gtr_t (by decide) ?_ | refine M.lss_t (by decide) ?_))
      refine M.call_i (awake_ret w1) ?_; rintro _ w2 ⟨rfl, k2⟩
      exact ⟨rfl, k1.trans k2 (fun _ _ h => h)⟩
    obtain ⟨hf, hfl, _⟩ := fewL_of (set := set) hfb (by omega) (by omega)
    have hl := hl.keep k1 (fun _ _ _ h => h)
    have hs := hs.keep k1 (fun _ _ _ h => h)
    (repeat (first | refine M.len_i ?_ | refine M.nilCheck_i ?_ | refine M.field_i ?_ | refine M.draw_i ?_ | refine M.cap_i ?_ | refine M.gd_tt ?_ | refine M.gd_ff ?_ | refine M.gd_ft ?_ | refine M.gd_tf ?_ | refine M.gd_u ?_ | refine M.pick_t ?_ | refine M.pick_f ?_ | refine M.not_t ?_ | refine M.not_f ?_ | refine M.cond_t ?_ | refine M.cond_f ?_ | refine M.eqNilP_tn ?_ | refine M.eqNilP_ts ?_ | refine M.eqNilP_fn ?_ | refine M.eqNilP_fs ?_ | refine M.eqNilS_tn ?_ | refine M.eqNilS_ts ?_ | refine M.eqNilS_fn ?_ | refine M.eqNilS_fs ?_ | refine M.lss_t (by omega) ?_ | refine M.lss_f (by omega) ?_ | refine M.leq_t (by omega) ?_ | refine M.leq_f (by omega) ?_ | refine M.gtr_t (by omega) ?_ | refine M.gtr_f (by omega) ?_ | refine M.geq_t (by omega) ?_ | refine M.geq_f (by omega) ?_ | refine M.eql_t (by omega) ?_ | refine M.eql_f (by omega) ?_ | refine M.neq_t (by omega) ?_ | refine M.neq_f (by omega) ?_ | refine M.add_i (by omega) (by omega) ?_ | refine M.sub_i (by omega) (by omega) ?_ | refine M.load_i (by assumption) ?_ | refine M.loadB_i (by assumption) rfl ?_ | refine M.st_i (by assumption) ?_ | refine M.stB_i (by assumption) rfl ?_ | refine M.gs_ff ?_ | refine M.gs_tt ?_ | refine M.gs_ft ?_ | refine M.gs_tf ?_ | refine M.stAll_i (by assumption) rfl ?_ | refine M.eql_t (by decide) ?_ | refine M.eql_f (by decide) ?_ | refine M.neq_t (by decide) ?_ | refine M.neq_f (by decide) ?_ | refine M.gtr_t (by decide) ?_ | refine M.lss_t (by decide) ?_))
    refine M.call_i (close_ret hl hs hf hfl hI hJ) ?_; rintro _ w2 ⟨o2, out2, kk2, rfl, hR2, g2, k2⟩
    refine M.extract_i rfl ?_
    refine M.extract_i rfl ?_
    have hl := hl.keep k2 (fun _ _ _ h => h)
    have hs := hs.keep k2 (fun _ _ _ h => h)
    refine M.call_i (rclose_ret hl hs hf hfl hI hJ) ?_; rintro _ w3 ⟨o3, out3, kk3, rfl, hR3, g3, k3⟩
    obtain ⟨rfl, rfl⟩ := hR3.uniq hR2
    have hlen := hR3.len hf
    refine M.extract_i rfl ?_
    refine M.extract_i rfl ?_
    have hl := hl.keep k3 (fun _ _ _ h => h)
    have hs := hs.keep k3 (fun _ _ _ h => h)
    have g2 := g2.keep k3 (fun _ _ _ h => h)
    refine M.call_i (same_ret (GI.lv g2) (GI.lv g3) (by omega)) ?_; rintro _ w4 ⟨rfl, k4⟩
    have hl := hl.keep k4 (fun _ _ _ h => h)
    have hs := hs.keep k4 (fun _ _ _ h => h)
    rw [show decide (out3 = out3) = true from decide_eq_true rfl]
    (repeat (first | refine M.len_i ?_ | refine M.nilCheck_i ?_ | refine M.field_i ?_ | refine M.draw_i ?_ | refine M.cap_i ?_ | refine M.gd_tt ?_ | refine M.gd_ff ?_ | refine M.gd_ft ?_ | refine M.gd_tf ?_ | refine M.gd_u ?_ | refine M.pick_t ?_ | refine M.pick_f ?_ | refine M.not_t ?_ | refine M.not_f ?_ | refine M.cond_t ?_ | refine M.cond_f ?_ | refine M.eqNilP_tn ?_ | refine M.eqNilP_ts ?_ | refine M.eqNilP_fn ?_ | refine M.eqNilP_fs ?_ | refine M.eqNilS_tn ?_ | refine M.eqNilS_ts ?_ | refine M.eqNilS_fn ?_ | refine M.eqNilS_fs ?_ | refine M.lss_t (by omega) ?_ | refine M.lss_f (by omega) ?_ | refine M.leq_t (by omega) ?_ | refine M.leq_f (by omega) ?_ | refine M.gtr_t (by omega) ?_ | refine M.gtr_f (by omega) ?_ | refine M.geq_t (by omega) ?_ | refine M.geq_f (by omega) ?_ | refine M.eql_t (by omega) ?_ | refine M.eql_f (by omega) ?_ | refine M.neq_t (by omega) ?_ | refine M.neq_f (by omega) ?_ | refine M.add_i (by omega) (by omega) ?_ | refine M.sub_i (by omega) (by omega) ?_ | refine M.load_i (by assumption) ?_ | refine M.loadB_i (by assumption) rfl ?_ | refine M.st_i (by assumption) ?_ | refine M.stB_i (by assumption) rfl ?_ | refine M.gs_ff ?_ | refine M.gs_tt ?_ | refine M.gs_ft ?_ | refine M.gs_tf ?_ | refine M.stAll_i (by assumption) rfl ?_))
    refine M.eqB_i ?_
    rw [show (xor false (kk3 == kk3)) = true by simp]
    (repeat (first | refine M.len_i ?_ | refine M.nilCheck_i ?_ | refine M.field_i ?_ | refine M.draw_i ?_ | refine M.cap_i ?_ | refine M.gd_tt ?_ | refine M.gd_ff ?_ | refine M.gd_ft ?_ | refine M.gd_tf ?_ | refine M.gd_u ?_ | refine M.pick_t ?_ | refine M.pick_f ?_ | refine M.not_t ?_ | refine M.not_f ?_ | refine M.cond_t ?_ | refine M.cond_f ?_ | refine M.eqNilP_tn ?_ | refine M.eqNilP_ts ?_ | refine M.eqNilP_fn ?_ | refine M.eqNilP_fs ?_ | refine M.eqNilS_tn ?_ | refine M.eqNilS_ts ?_ | refine M.eqNilS_fn ?_ | refine M.eqNilS_fs ?_ | refine M.lss_t (by omega) ?_ | refine M.lss_f (by omega) ?_ | refine M.leq_t (by omega) ?_ | refine M.leq_f (by omega) ?_ | refine M.gtr_t (by omega) ?_ | refine M.gtr_f (by omega) ?_ | refine M.geq_t (by omega) ?_ | refine M.geq_f (by omega) ?_ | refine M.eql_t (by omega) ?_ | refine M.eql_f (by omega) ?_ | refine M.neq_t (by omega) ?_ | refine M.neq_f (by omega) ?_ | refine M.add_i (by omega) (by omega) ?_ | refine M.sub_i (by omega) (by omega) ?_ | refine M.load_i (by assumption) ?_ | refine M.loadB_i (by assumption) rfl ?_ | refine M.st_i (by assumption) ?_ | refine M.stB_i (by assumption) rfl ?_ | refine M.gs_ff ?_ | refine M.gs_tt ?_ | refine M.gs_ft ?_ | refine M.gs_tf ?_ | refine M.stAll_i (by assumption) rfl ?_))
    refine M.call_i (follows_ret hl hs hf hfl hI hJ x) ?_; rintro _ w5 ⟨out5, kk5, rfl, hR5, k5⟩
    have hl := hl.keep k5 (fun _ _ _ h => h)
    have hs := hs.keep k5 (fun _ _ _ h => h)
    (repeat (first | refine M.len_i ?_ | refine M.nilCheck_i ?_ | refine M.field_i ?_ | refine M.draw_i ?_ | refine M.cap_i ?_ | refine M.gd_tt ?_ | refine M.gd_ff ?_ | refine M.gd_ft ?_ | refine M.gd_tf ?_ | refine M.gd_u ?_ | refine M.pick_t ?_ | refine M.pick_f ?_ | refine M.not_t ?_ | refine M.not_f ?_ | refine M.cond_t ?_ | refine M.cond_f ?_ | refine M.eqNilP_tn ?_ | refine M.eqNilP_ts ?_ | refine M.eqNilP_fn ?_ | refine M.eqNilP_fs ?_ | refine M.eqNilS_tn ?_ | refine M.eqNilS_ts ?_ | refine M.eqNilS_fn ?_ | refine M.eqNilS_fs ?_ | refine M.lss_t (by omega) ?_ | refine M.lss_f (by omega) ?_ | refine M.leq_t (by omega) ?_ | refine M.leq_f (by omega) ?_ | refine M.gtr_t (by omega) ?_ | refine M.gtr_f (by omega) ?_ | refine M.geq_t (by omega) ?_ | refine M.geq_f (by omega) ?_ | refine M.eql_t (by omega) ?_ | refine M.eql_f (by omega) ?_ | refine M.neq_t (by omega) ?_ | refine M.neq_f (by omega) ?_ | refine M.add_i (by omega) (by omega) ?_ | refine M.sub_i (by omega) (by omega) ?_ | refine M.load_i (by assumption) ?_ | refine M.loadB_i (by assumption) rfl ?_ | refine M.st_i (by assumption) ?_ | refine M.stB_i (by assumption) rfl ?_ | refine M.gs_ff ?_ | refine M.gs_tt ?_ | refine M.gs_ft ?_ | refine M.gs_tf ?_ | refine M.stAll_i (by assumption) rfl ?_))
    refine M.call_i (rfollows_ret hl hs hf hfl hI hJ x) ?_; rintro _ w6 ⟨out6, kk6, rfl, hR6, k6⟩
    obtain ⟨rfl, rfl⟩ := hR6.uniq hR5
    (repeat (first | refine M.len_i ?_ | refine M.nilCheck_i ?_ | refine M.field_i ?_ | refine M.draw_i ?_ | refine M.cap_i ?_ | refine M.gd_tt ?_ | refine M.gd_ff ?_ | refine M.gd_ft ?_ | refine M.gd_tf ?_ | refine M.gd_u ?_ | refine M.pick_t ?_ | refine M.pick_f ?_ | refine M.not_t ?_ | refine M.not_f ?_ | refine M.cond_t ?_ | refine M.cond_f ?_ | refine M.eqNilP_tn ?_ | refine M.eqNilP_ts ?_ | refine M.eqNilP_fn ?_ | refine M.eqNilP_fs ?_ | refine M.eqNilS_tn ?_ | refine M.eqNilS_ts ?_ | refine M.eqNilS_fn ?_ | refine M.eqNilS_fs ?_ | refine M.lss_t (by omega) ?_ | refine M.lss_f (by omega) ?_ | refine M.leq_t (by omega) ?_ | refine M.leq_f (by omega) ?_ | refine M.gtr_t (by omega) ?_ | refine M.gtr_f (by omega) ?_ | refine M.geq_t (by omega) ?_ | refine M.geq_f (by omega) ?_ | refine M.eql_t (by omega) ?_ | refine M.eql_f (by omega) ?_ | refine M.neq_t (by omega) ?_ | refine M.neq_f (by omega) ?_ | refine M.add_i (by omega) (by omega) ?_ | refine M.sub_i (by omega) (by omega) ?_ | refine M.load_i (by assumption) ?_ | refine M.loadB_i (by assumption) rfl ?_ | refine M.st_i (by assumption) ?_ | refine M.stB_i (by assumption) rfl ?_ | refine M.gs_ff ?_ | refine M.gs_tt ?_ | refine M.gs_ft ?_ | refine M.gs_tf ?_ | refine M.stAll_i (by assumption) rfl ?_))
    refine M.eqB_i ?_
    rw [show (xor false ((!kk6 || decide (x ∈ out6)) == (!kk6 || decide (x ∈ out6)))) = true by simp]
    (repeat (first | refine M.len_i ?_ | refine M.nilCheck_i ?_ | refine M.field_i ?_ | refine M.draw_i ?_ | refine M.cap_i ?_ | refine M.gd_tt ?_ | refine M.gd_ff ?_ | refine M.gd_ft ?_ | refine M.gd_tf ?_ | refine M.gd_u ?_ | refine M.pick_t ?_ | refine M.pick_f ?_ | refine M.not_t ?_ | refine M.not_f ?_ | refine M.cond_t ?_ | refine M.cond_f ?_ | refine M.eqNilP_tn ?_ | refine M.eqNilP_ts ?_ | refine M.eqNilP_fn ?_ | refine M.eqNilP_fs ?_ | refine M.eqNilS_tn ?_ | refine M.eqNilS_ts ?_ | refine M.eqNilS_fn ?_ | refine M.eqNilS_fs ?_ | refine M.lss_t (by omega) ?_ | refine M.lss_f (by omega) ?_ | refine M.leq_t (by omega) ?_ | refine M.leq_f (by omega) ?_ | refine M.gtr_t (by omega) ?_ | refine M.gtr_f (by omega) ?_ | refine M.geq_t (by omega) ?_ | refine M.geq_f (by omega) ?_ | refine M.eql_t (by omega) ?_ | refine M.eql_f (by omega) ?_ | refine M.neq_t (by omega) ?_ | refine M.neq_f (by omega) ?_ | refine M.add_i (by omega) (by omega) ?_ | refine M.sub_i (by omega) (by omega) ?_ | refine M.load_i (by assumption) ?_ | refine M.loadB_i (by assumption) rfl ?_ | refine M.st_i (by assumption) ?_ | refine M.stB_i (by assumption) rfl ?_ | refine M.gs_ff ?_ | refine M.gs_tt ?_ | refine M.gs_ft ?_ | refine M.gs_tf ?_ | refine M.stAll_i (by assumption) rfl ?_))
    refine M.call_i (awake_ret w6) ?_; rintro _ w7 ⟨rfl, k7⟩
    (repeat (first | refine M.len_i ?_ | refine M.nilCheck_i ?_ | refine M.field_i ?_ | refine M.draw_i ?_ | refine M.cap_i ?_ | refine M.gd_tt ?_ | refine M.gd_ff ?_ | refine M.gd_ft ?_ | refine M.gd_tf ?_ | refine M.gd_u ?_ | refine M.pick_t ?_ | refine M.pick_f ?_ | refine M.not_t ?_ | refine M.not_f ?_ | refine M.cond_t ?_ | refine M.cond_f ?_ | refine M.eqNilP_tn ?_ | refine M.eqNilP_ts ?_ | refine M.eqNilP_fn ?_ | refine M.eqNilP_fs ?_ | refine M.eqNilS_tn ?_ | refine M.eqNilS_ts ?_ | refine M.eqNilS_fn ?_ | refine M.eqNilS_fs ?_ | refine M.lss_t (by omega) ?_ | refine M.lss_f (by omega) ?_ | refine M.leq_t (by omega) ?_ | refine M.leq_f (by omega) ?_ | refine M.gtr_t (by omega) ?_ | refine M.gtr_f (by omega) ?_ | refine M.geq_t (by omega) ?_ | refine M.geq_f (by omega) ?_ | refine M.eql_t (by omega) ?_ | refine M.eql_f (by omega) ?_ | refine M.neq_t (by omega) ?_ | refine M.neq_f (by omega) ?_ | refine M.add_i (by omega) (by omega) ?_ | refine M.sub_i (by omega) (by omega) ?_ | refine M.load_i (by assumption) ?_ | refine M.loadB_i (by assumption) rfl ?_ | refine M.st_i (by assumption) ?_ | refine M.stB_i (by assumption) rfl ?_ | refine M.gs_ff ?_ | refine M.gs_tt ?_ | refine M.gs_ft ?_ | refine M.gs_tf ?_ | refine M.stAll_i (by assumption) rfl ?_))
    exact ⟨rfl, (((((k1.trans k2 (fun _ _ h => h)).trans k3 (fun _ _ h => h)).trans k4 (fun _ _ h => h)).trans k5 (fun _ _ h => h)).trans k6 (fun _ _ h => h)).trans k7 (fun _ _ h => h)⟩
end Go.Proofs.Ytgbodhibflpgmaa
