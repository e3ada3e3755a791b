import Derived.Test.YtfkbacoiocniaaaSimp43p
namespace Go.Proofs.Ytfkbacoiocniaaa
open Go.Mw Go.Shelf
set_option linter.unusedVariables false
set_option linter.unusedSimpArgs false
set_option maxRecDepth 100000
attribute [local irreducible] M.val M.unit M.next M.pick M.new M.nilCheck M.load1 M.loadA M.store M.fieldAddr M.indexSl M.indexArr M.slice M.makeSlice M.buildSlice M.len M.lenS M.cap M.append M.extract M.conv M.not M.neg M.bin M.shift M.eqB M.eqNil M.call M.callv M.gd M.share M.cond M.loop M.draw pureW readW Ret
/-! cmp.isNaN[int]: function 144 -/
def sh144 (x0 : Value) (R : Kt) (w : World) : Prop :=
  M.bin .neq x0 x0 (fun t5 w =>
  R t5 w) w
theorem ok144 (x0 : Value) (R : Kt) (w : World) (h : sh144 x0 R w) : Ret Try.prog 144 #[x0] w R :=
  ret_mk <| calls_of_comp mixed (c := Try.f144.body.getD .skip) (args := [x0]) (rs := [(ResultVar.tmp 2)]) (Ann.seq Ann.text (Ann.seq Ann.text Ann.leaf))
    Try.func144 (by kernel_rfl) (by kernel_rfl)
    (Eq.mp (by kernel_rfl) h)
/-! slices.isNaN[int]: function 106 -/
def sh106 (x0 : Value) (R : Kt) (w : World) : Prop :=
  M.bin .neq x0 x0 (fun t5 w =>
  R t5 w) w
theorem ok106 (x0 : Value) (R : Kt) (w : World) (h : sh106 x0 R w) : Ret Try.prog 106 #[x0] w R :=
  ret_mk <| calls_of_comp mixed (c := Try.f106.body.getD .skip) (args := [x0]) (rs := [(ResultVar.tmp 2)]) (Ann.seq Ann.text (Ann.seq Ann.text Ann.leaf))
    Try.func106 (by kernel_rfl) (by kernel_rfl)
    (Eq.mp (by kernel_rfl) h)
/-! cmp.Less[int]: function 105 -/
def sh105 (x0 x1 : Value) (R : Kt) (w : World) : Prop :=
  M.call Try.prog 144 #[x0] (fun t6 w =>
  M.gd t6 true (fun k w => k x1 w) (fun t8 w =>
  M.gd t6 true (fun k w => M.call Try.prog 144 #[t8] k w) (fun t9 w =>
  M.gd t6 true (fun k w => M.not t9 k w) (fun t10 w =>
  M.pick t6 t10 (Value.bool false) (fun t11 w =>
  M.gd t11 false (fun k w => k x0 w) (fun t13 w =>
  M.gd t11 false (fun k w => k x1 w) (fun t14 w =>
  M.gd t11 false (fun k w => M.bin .lss t13 t14 k w) (fun t15 w =>
  M.pick t11 (Value.bool true) t15 (fun t16 w =>
  R t16 w) w) w) w) w) w) w) w) w) w
theorem ok105 (x0 x1 : Value) (R : Kt) (w : World) (h : sh105 x0 x1 R w) : Ret Try.prog 105 #[x0, x1] w R :=
  ret_mk <| calls_of_comp mixed (c := Try.f105.body.getD .skip) (args := [x0, x1]) (rs := [(ResultVar.tmp 4)]) (Ann.seq Ann.text (Ann.seq Ann.text Ann.leaf))
    Try.func105 (by kernel_rfl) (by kernel_rfl)
    (Eq.mp (by kernel_rfl) h)
/-! slices.BinarySearch[[]int,int]: function 66 -/
def sh66 (x0 x1 : Value) (R : Kt) (w : World) : Prop :=
  M.len x0 (fun t11 w =>
  M.loop [(Value.int IntKind.i64 0), t11] (fun s1 K1 w => ∀ _ : List Value,
  M.bin .lss (s1.getD 0 undef) (s1.getD 1 undef) (fun t15 w =>
  M.cond t15
  (M.share (fun K2 w =>
  M.bin .add (s1.getD 0 undef) (s1.getD 1 undef) (fun t18 w =>
  M.conv .u64 t18 (fun t19 w =>
  M.shift .shr t19 (Value.int IntKind.u64 1) (fun t20 w =>
  M.conv .i64 t20 (fun t21 w =>
  M.indexSl 1 x0 t21 (fun t24 w =>
  M.load1 t24 (fun t25 w =>
  M.call Try.prog 105 #[t25, x1] (fun t27 w =>
  M.cond t27
  (M.bin .add t21 (Value.int IntKind.i64 1) (fun t29 w =>
  K2 [t29, (s1.getD 1 undef)] w) w)
  (K2 [(s1.getD 0 undef), t21] w)) w) w) w) w) w) w) w) (fun s2 w => ∀ _ : List Value,
  K1 [(s2.getD 0 undef), (s2.getD 1 undef)] w) w)
  (M.bin .lss (s1.getD 0 undef) t11 (fun t34 w =>
  M.gd t34 true (fun k w => k x0 w) (fun t36 w =>
  M.gd t34 true (fun k w => k (s1.getD 0 undef) w) (fun t37 w =>
  M.gd t34 true (fun k w => M.indexSl 1 t36 t37 k w) (fun t38 w =>
  M.gd t34 true (fun k w => M.load1 t38 k w) (fun t39 w =>
  M.gd t34 true (fun k w => k x1 w) (fun t40 w =>
  M.gd t34 true (fun k w => M.bin .eql t39 t40 k w) (fun t41 w =>
  M.gd t34 true (fun k w => k t41 w) (fun t42 w =>
  M.gd t42 false (fun k w => k x0 w) (fun t43 w =>
  M.gd t42 false (fun k w => k (s1.getD 0 undef) w) (fun t44 w =>
  M.gd t42 false (fun k w => M.indexSl 1 t43 t44 k w) (fun t45 w =>
  M.gd t42 false (fun k w => M.load1 t45 k w) (fun t46 w =>
  M.gd t42 false (fun k w => M.call Try.prog 106 #[t46] k w) (fun t47 w =>
  M.gd t42 false (fun k w => k t47 w) (fun t48 w =>
  M.gd t48 true (fun k w => k x1 w) (fun t49 w =>
  M.gd t48 true (fun k w => M.call Try.prog 106 #[t49] k w) (fun t50 w =>
  M.gd t42 false (fun k w => M.pick t48 t50 (Value.bool false) k w) (fun t51 w =>
  M.gd t34 true (fun k w => M.pick t42 (Value.bool true) t51 k w) (fun t52 w =>
  M.pick t34 t52 (Value.bool false) (fun t53 w =>
  R (.tuple #[(s1.getD 0 undef), t53]) w) w) w) w) w) w) w) w) w) w) w) w) w) w) w) w) w) w) w) w)) w) w) w
theorem ok66 (x0 x1 : Value) (R : Kt) (w : World) (h : sh66 x0 x1 R w) : Ret Try.prog 66 #[x0, x1] w R :=
  ret_mk <| calls_of_comp mixed (c := Try.f66.body.getD .skip) (args := [x0, x1]) (rs := [(ResultVar.tmp 4), (ResultVar.tmp 5)]) (Ann.seq Ann.text (Ann.seq Ann.text (Ann.seq Ann.text (Ann.seq (Ann.block (Ann.loop [7, 8] [9, 13, 14, 15, 16, 17, 18, 19, 20, 21, 22, 23, 24, 25, 26, 27, 28, 29, 30] (Ann.seq (Ann.seq Ann.text (Ann.cond Ann.leaf Ann.leaf)) (Ann.jblock [7, 8] [9, 16, 17, 18, 19, 20, 21, 22, 23, 24, 25, 26, 27, 28, 29, 30] (Ann.seq Ann.text (Ann.seq Ann.text (Ann.cond Ann.text Ann.text))))))) (Ann.seq Ann.text Ann.leaf)))))
    Try.func66 (by kernel_rfl) (by kernel_rfl)
    (Eq.mp (by kernel_rfl) h)
/-! breakwater/simp.Units$1: function 65 -/
def sh65 (x0 x1 : Value) (R : Kt) (w : World) : Prop :=
  M.load1 x1 (fun t7 w =>
  M.call Try.prog 66 #[t7, x0] (fun t9 w =>
  M.extract 0 t9 (fun t10 w =>
  M.extract 1 t9 (fun t11 w =>
  R t11 w) w) w) w) w
theorem ok65 (x0 x1 : Value) (R : Kt) (w : World) (h : sh65 x0 x1 R w) : Ret Try.prog 65 #[x0, x1] w R :=
  ret_mk <| calls_of_comp mixed (c := Try.f65.body.getD .skip) (args := [x0, x1]) (rs := [(ResultVar.tmp 3)]) (Ann.seq Ann.text (Ann.seq Ann.text (Ann.seq Ann.text Ann.leaf)))
    Try.func65 (by kernel_rfl) (by kernel_rfl)
    (Eq.mp (by kernel_rfl) h)
/-! breakwater/simp.Units: function 29 -/
def sh29 (x0 : Value) (R : Kt) (w : World) : Prop :=
  M.call Try.prog 64 #[x0, (Value.slice none 0 0)] (fun t16 w =>
  M.extract 0 t16 (fun t17 w =>
  M.extract 1 t16 (fun t18 w =>
  M.new 22 #[.slice none 0 0] (fun t5 w =>
  M.store 1 t5 t17 (fun _ w =>
  M.not t18 (fun t20 w =>
  M.cond t20
  (R (.tuple #[(Value.slice none 0 0), (Value.slice none 0 0), (Value.bool false)]) w)
  (M.len x0 (fun t23 w =>
  M.loop [(Value.slice none 0 0), (Value.int IntKind.i64 0)] (fun s1 K1 w => ∀ _ : List Value,
  M.bin .lss (s1.getD 1 undef) t23 (fun t25 w =>
  M.cond t25
  (M.share (fun K2 w =>
  M.indexSl 1 x0 (s1.getD 1 undef) (fun t26 w =>
  M.load1 t26 (fun t27 w =>
  M.call Try.prog 53 #[t27, (.func (Fn.func 65) #[] #[t5])] (fun t30 w =>
  M.cond t30
  (K2 [(s1.getD 0 undef)] w)
  (M.len t27 (fun t32 w =>
  M.loop [(Value.slice none 0 0), (Value.int IntKind.i64 0)] (fun s3 K3 w => ∀ _ : List Value,
  M.bin .lss (s3.getD 1 undef) t32 (fun t34 w =>
  M.cond t34
  (M.share (fun K4 w =>
  M.indexSl 1 t27 (s3.getD 1 undef) (fun t35 w =>
  M.load1 t35 (fun t36 w =>
  M.call Try.prog 50 #[t36] (fun t39 w =>
  M.callv Try.prog (.func (Fn.func 65) #[] #[t5]) #[t39] (fun t40 w =>
  M.not t40 (fun t41 w =>
  M.cond t41
  (M.buildSlice 3 1 #[.int .i64 0] 1 [(0, t36)] (fun t44 w =>
  M.append 3 1 8 #[.int .i64 0] (s3.getD 0 undef) t44 (fun t45 w =>
  K4 [t45] w) w) w)
  (K4 [(s3.getD 0 undef)] w)) w) w) w) w) w) (fun s4 w => ∀ _ : List Value,
  M.bin .add (s3.getD 1 undef) (Value.int IntKind.i64 1) (fun t46 w =>
  K3 [(s4.getD 0 undef), t46] w) w) w)
  (M.buildSlice 22 1 #[.slice none 0 0] 1 [(0, (s3.getD 0 undef))] (fun t49 w =>
  M.append 22 1 24 #[.slice none 0 0] (s1.getD 0 undef) t49 (fun t50 w =>
  K2 [t50] w) w) w)) w) w) w)) w) w) w) (fun s2 w => ∀ _ : List Value,
  M.bin .add (s1.getD 1 undef) (Value.int IntKind.i64 1) (fun t51 w =>
  K1 [(s2.getD 0 undef), t51] w) w) w)
  (M.draw (fun w =>
  M.load1 t5 (fun t53 w =>
  R (.tuple #[(s1.getD 0 undef), t53, (Value.bool true)]) w) w) w)) w) w) w)) w) w) w) w) w) w
theorem ok29 (x0 : Value) (R : Kt) (w : World) (h : sh29 x0 R w) : Ret Try.prog 29 #[x0] w R :=
  ret_mk <| calls_of_comp mixed (c := Try.f29.body.getD .skip) (args := [x0]) (rs := [(ResultVar.tmp 2), (ResultVar.tmp 3), (ResultVar.tmp 4)]) (Ann.seq Ann.text (Ann.seq Ann.text (Ann.seq (Ann.seq Ann.text (Ann.cond (Ann.seq Ann.text Ann.leaf) Ann.leaf)) (Ann.seq Ann.text (Ann.seq Ann.text (Ann.seq (Ann.seq Ann.text (Ann.block (Ann.loop [8, 24] [10, 11, 13, 25, 26, 27, 28, 29, 30, 31, 32, 33, 34, 35, 36, 37, 38, 39, 40, 41, 42, 43, 44, 45, 46, 47, 48, 49, 50, 51] (Ann.seq Ann.text (Ann.seq (Ann.cond Ann.leaf Ann.leaf) (Ann.seq (Ann.jblock [8] [10, 11, 13, 26, 27, 28, 29, 30, 31, 32, 33, 34, 35, 36, 37, 38, 39, 40, 41, 42, 43, 44, 45, 46, 47, 48, 49, 50] (Ann.seq Ann.text (Ann.seq (Ann.seq Ann.text (Ann.cond Ann.leaf Ann.leaf)) (Ann.seq Ann.text (Ann.seq (Ann.seq Ann.text (Ann.block (Ann.loop [11, 33] [13, 34, 35, 36, 37, 38, 39, 40, 41, 42, 43, 44, 45, 46] (Ann.seq Ann.text (Ann.seq (Ann.cond Ann.leaf Ann.leaf) (Ann.seq (Ann.jblock [11] [13, 35, 36, 37, 38, 39, 40, 41, 42, 43, 44, 45] (Ann.seq Ann.text (Ann.seq Ann.text (Ann.cond Ann.text Ann.leaf)))) Ann.text)))))) Ann.text))))) Ann.text)))))) (Ann.seq (Ann.draw (Sch.take 0 (Sch.take 1 (Sch.take 2 (Sch.take 3 (Sch.take 4 Sch.done)))))) Ann.leaf)))))))
    Try.func29 (by kernel_rfl) (by kernel_rfl)
    (Eq.mp (by kernel_rfl) h)

theorem wrap_u64 {n : Int} (h0 : 0 ≤ n) (h1 : n < 18446744073709551616) : IntKind.u64.wrap n = n := by
  have e : IntKind.u64.wrap n = n % 18446744073709551616 := by
    unfold IntKind.wrap
    simp [IntKind.bits, IntKind.signed]
  rw [e]
  omega
theorem M.toU_i {k : Kt} {w : World} {d : IntKind} {n : Int} (h0 : 0 ≤ n) (h1 : n < 18446744073709551616) (h : k (.int .u64 n) w) : M.conv .u64 (.int d n) k w := by
  unfold M.conv
  simp only [wrap_u64 h0 h1]; exact h
theorem M.toI_i {k : Kt} {w : World} {d : IntKind} {n : Int} (h0 : -9223372036854775808 ≤ n) (h1 : n < 9223372036854775808) (h : k (vi n) w) : M.conv .i64 (.int d n) k w := by
  unfold M.conv
  simp only [wrap_i64 h0 h1]; exact h
theorem shrU_one (l : Int) : ishift .shr .u64 l 1 = some (.int .u64 (l / 2)) := by
  simp only [ishift]
  rw [if_neg (by omega)]
  have : min (1 : Int).toNat IntKind.u64.bits = 1 := by decide
  rw [this]
  simp [Int.fdiv_eq_ediv]
theorem isNaN_ret (x : Int) (w : World) : Ret Try.prog 144 #[vi x] w (fun r w' => r = .bool false ∧ w' = w) := by
  refine ok144 _ _ _ ?_
  unfold sh144
  refine M.neq_f rfl ⟨rfl, rfl⟩
theorem less_ret (x y : Int) (w : World) : Ret Try.prog 105 #[vi x, vi y] w (fun r w' => r = .bool (decide (x < y)) ∧ w' = w) := by
  refine ok105 _ _ _ _ ?_
  unfold sh105
  refine M.call_i (isNaN_ret x w) ?_; rintro _ w1 ⟨rfl, rfl⟩
  (repeat (first | refine M.len_i ?_ | refine M.nilCheck_i ?_ | refine M.field_i ?_ | refine M.draw_i ?_ | refine M.cap_i ?_ | refine M.gd_tt ?_ | refine M.gd_ff ?_ | refine M.gd_ft ?_ | refine M.gd_tf ?_ | refine M.gd_u ?_ | refine M.pick_t ?_ | refine M.pick_f ?_ | refine M.not_t ?_ | refine M.not_f ?_ | refine M.cond_t ?_ | refine M.cond_f ?_ | refine M.eqNilP_tn ?_ | refine M.eqNilP_ts ?_ | refine M.eqNilP_fn ?_ | refine M.eqNilP_fs ?_ | refine M.eqNilS_tn ?_ | refine M.eqNilS_ts ?_ | refine M.eqNilS_fn ?_ | refine M.eqNilS_fs ?_ | refine M.lss_t (by omega) ?_ | refine M.lss_f (by omega) ?_ | refine M.leq_t (by omega) ?_ | refine M.leq_f (by omega) ?_ | refine M.gtr_t (by omega) ?_ | refine M.gtr_f (by omega) ?_ | refine M.geq_t (by omega) ?_ | refine M.geq_f (by omega) ?_ | refine M.eql_t (by omega) ?_ | refine M.eql_f (by omega) ?_ | refine M.neq_t (by omega) ?_ | refine M.neq_f (by omega) ?_ | refine M.add_i (by omega) (by omega) ?_ | refine M.sub_i (by omega) (by omega) ?_ | refine M.load_i (by assumption) ?_ | refine M.loadB_i (by assumption) rfl ?_ | refine M.st_i (by assumption) ?_ | refine M.stB_i (by assumption) rfl ?_ | refine M.gs_ff ?_ | refine M.gs_tt ?_ | refine M.gs_ft ?_ | refine M.gs_tf ?_ | refine M.stAll_i (by assumption) rfl ?_))
  refine M.lss_i ?_
  (repeat (first | refine M.len_i ?_ | refine M.nilCheck_i ?_ | refine M.field_i ?_ | refine M.draw_i ?_ | refine M.cap_i ?_ | refine M.gd_tt ?_ | refine M.gd_ff ?_ | refine M.gd_ft ?_ | refine M.gd_tf ?_ | refine M.gd_u ?_ | refine M.pick_t ?_ | refine M.pick_f ?_ | refine M.not_t ?_ | refine M.not_f ?_ | refine M.cond_t ?_ | refine M.cond_f ?_ | refine M.eqNilP_tn ?_ | refine M.eqNilP_ts ?_ | refine M.eqNilP_fn ?_ | refine M.eqNilP_fs ?_ | refine M.eqNilS_tn ?_ | refine M.eqNilS_ts ?_ | refine M.eqNilS_fn ?_ | refine M.eqNilS_fs ?_ | refine M.lss_t (by omega) ?_ | refine M.lss_f (by omega) ?_ | refine M.leq_t (by omega) ?_ | refine M.leq_f (by omega) ?_ | refine M.gtr_t (by omega) ?_ | refine M.gtr_f (by omega) ?_ | refine M.geq_t (by omega) ?_ | refine M.geq_f (by omega) ?_ | refine M.eql_t (by omega) ?_ | refine M.eql_f (by omega) ?_ | refine M.neq_t (by omega) ?_ | refine M.neq_f (by omega) ?_ | refine M.add_i (by omega) (by omega) ?_ | refine M.sub_i (by omega) (by omega) ?_ | refine M.load_i (by assumption) ?_ | refine M.loadB_i (by assumption) rfl ?_ | refine M.st_i (by assumption) ?_ | refine M.stB_i (by assumption) rfl ?_ | refine M.gs_ff ?_ | refine M.gs_tt ?_ | refine M.gs_ft ?_ | refine M.gs_tf ?_ | refine M.stAll_i (by assumption) rfl ?_))
  exact ⟨rfl, rfl⟩
set_option maxHeartbeats 1000000 in
theorem bsearch_ret {w : World} {D : Nat → Prop} {u : Value} {xs : List Int} (h : LV vi w D u xs) (hf : xs.length ≤ 100000000) (hs : xs.Pairwise (· < ·)) (x : Int) :
    Ret Try.prog 66 #[u, vi x] w (fun r w' => ∃ i : Nat, r = .tuple #[vi i, .bool (inB xs x)] ∧ w' = w) := by
  obtain ⟨A, c, rfl, hr, hc⟩ := h
  have hp := List.pairwise_iff_getElem.1 hs
  refine ok66 _ _ _ _ ?_
  unfold sh66
  (repeat (first | refine M.len_i ?_ | refine M.nilCheck_i ?_ | refine M.field_i ?_ | refine M.draw_i ?_ | refine M.cap_i ?_ | refine M.gd_tt ?_ | refine M.gd_ff ?_ | refine M.gd_ft ?_ | refine M.gd_tf ?_ | refine M.gd_u ?_ | refine M.pick_t ?_ | refine M.pick_f ?_ | refine M.not_t ?_ | refine M.not_f ?_ | refine M.cond_t ?_ | refine M.cond_f ?_ | refine M.eqNilP_tn ?_ | refine M.eqNilP_ts ?_ | refine M.eqNilP_fn ?_ | refine M.eqNilP_fs ?_ | refine M.eqNilS_tn ?_ | refine M.eqNilS_ts ?_ | refine M.eqNilS_fn ?_ | refine M.eqNilS_fs ?_ | refine M.lss_t (by omega) ?_ | refine M.lss_f (by omega) ?_ | refine M.leq_t (by omega) ?_ | refine M.leq_f (by omega) ?_ | refine M.gtr_t (by omega) ?_ | refine M.gtr_f (by omega) ?_ | refine M.geq_t (by omega) ?_ | refine M.geq_f (by omega) ?_ | refine M.eql_t (by omega) ?_ | refine M.eql_f (by omega) ?_ | refine M.neq_t (by omega) ?_ | refine M.neq_f (by omega) ?_ | refine M.add_i (by omega) (by omega) ?_ | refine M.sub_i (by omega) (by omega) ?_ | refine M.load_i (by assumption) ?_ | refine M.loadB_i (by assumption) rfl ?_ | refine M.st_i (by assumption) ?_ | refine M.stB_i (by assumption) rfl ?_ | refine M.gs_ff ?_ | refine M.gs_tt ?_ | refine M.gs_ft ?_ | refine M.gs_tf ?_ | refine M.stAll_i (by assumption) rfl ?_))
  refine M.loop_i (σ := Nat × Nat) (fun s vals w' => vals = [vi s.1, vi s.2] ∧ s.1 ≤ s.2 ∧ s.2 ≤ xs.length ∧ (∀ (k : Nat) y, k < s.1 → xs[k]? = some y → y < x) ∧ (∀ (k : Nat) y, s.2 ≤ k → xs[k]? = some y → ¬ y < x) ∧ w' = w) (fun s => s.2 - s.1) (0, xs.length)
    ⟨rfl, by show 0 ≤ xs.length; omega, by show xs.length ≤ xs.length; omega, fun k y hk => by exact absurd hk (by show ¬ k < 0; omega), fun k y hk hy => by
      have := (List.getElem?_eq_some_iff.1 hy).1
      exact absurd hk (by show ¬ xs.length ≤ k; omega), rfl⟩ ?_
  rintro ⟨i, j⟩ vals w1 K ⟨rfl, hij, hj, hlo, hhi, rfl⟩ hK _
  simp only at hij hj hlo hhi
  simp only [List.getD_cons_zero, List.getD_cons_succ]
  by_cases hlt : i < j
  · obtain ⟨y, hy⟩ : ∃ y, xs[(i + j) / 2]? = some y := ⟨_, List.getElem?_eq_getElem (by omega)⟩
    have hyl := (List.getElem?_eq_some_iff.1 hy).1
    have hye := (List.getElem?_eq_some_iff.1 hy).2
    have eh : ((i : Int) + (j : Int)) / 2 = (((i + j) / 2 : Nat) : Int) := by omega
    (repeat (first | refine M.len_i ?_ | refine M.nilCheck_i ?_ | refine M.field_i ?_ | refine M.draw_i ?_ | refine M.cap_i ?_ | refine M.gd_tt ?_ | refine M.gd_ff ?_ | refine M.gd_ft ?_ | refine M.gd_tf ?_ | refine M.gd_u ?_ | refine M.pick_t ?_ | refine M.pick_f ?_ | refine M.not_t ?_ | refine M.not_f ?_ | refine M.cond_t ?_ | refine M.cond_f ?_ | refine M.eqNilP_tn ?_ | refine M.eqNilP_ts ?_ | refine M.eqNilP_fn ?_ | refine M.eqNilP_fs ?_ | refine M.eqNilS_tn ?_ | refine M.eqNilS_ts ?_ | refine M.eqNilS_fn ?_ | refine M.eqNilS_fs ?_ | refine M.lss_t (by omega) ?_ | refine M.lss_f (by omega) ?_ | refine M.leq_t (by omega) ?_ | refine M.leq_f (by omega) ?_ | refine M.gtr_t (by omega) ?_ | refine M.gtr_f (by omega) ?_ | refine M.geq_t (by omega) ?_ | refine M.geq_f (by omega) ?_ | refine M.eql_t (by omega) ?_ | refine M.eql_f (by omega) ?_ | refine M.neq_t (by omega) ?_ | refine M.neq_f (by omega) ?_ | refine M.add_i (by omega) (by omega) ?_ | refine M.sub_i (by omega) (by omega) ?_ | refine M.load_i (by assumption) ?_ | refine M.loadB_i (by assumption) rfl ?_ | refine M.st_i (by assumption) ?_ | refine M.stB_i (by assumption) rfl ?_ | refine M.gs_ff ?_ | refine M.gs_tt ?_ | refine M.gs_ft ?_ | refine M.gs_tf ?_ | refine M.stAll_i (by assumption) rfl ?_))
    refine M.share_j (fun vals w' => ∃ i' j' : Nat, vals = [vi i', vi j'] ∧ j' - i' < j - i ∧ i' ≤ j' ∧ j' ≤ xs.length ∧ (∀ (k : Nat) y, k < i' → xs[k]? = some y → y < x) ∧ (∀ (k : Nat) y, j' ≤ k → xs[k]? = some y → ¬ y < x) ∧ w' = w1) ?_ ?_
    · rintro vals w2 ⟨i', j', rfl, h1, h2, h3, h4, h5, rfl⟩ _
      simp only [List.getD_cons_zero, List.getD_cons_succ]
      exact hK (i', j') _ _ h1 ⟨rfl, h2, h3, h4, h5, rfl⟩
    · intro K2 hK2
      (repeat (first | refine M.len_i ?_ | refine M.nilCheck_i ?_ | refine M.field_i ?_ | refine M.draw_i ?_ | refine M.cap_i ?_ | refine M.gd_tt ?_ | refine M.gd_ff ?_ | refine M.gd_ft ?_ | refine M.gd_tf ?_ | refine M.gd_u ?_ | refine M.pick_t ?_ | refine M.pick_f ?_ | refine M.not_t ?_ | refine M.not_f ?_ | refine M.cond_t ?_ | refine M.cond_f ?_ | refine M.eqNilP_tn ?_ | refine M.eqNilP_ts ?_ | refine M.eqNilP_fn ?_ | refine M.eqNilP_fs ?_ | refine M.eqNilS_tn ?_ | refine M.eqNilS_ts ?_ | refine M.eqNilS_fn ?_ | refine M.eqNilS_fs ?_ | refine M.lss_t (by omega) ?_ | refine M.lss_f (by omega) ?_ | refine M.leq_t (by omega) ?_ | refine M.leq_f (by omega) ?_ | refine M.gtr_t (by omega) ?_ | refine M.gtr_f (by omega) ?_ | refine M.geq_t (by omega) ?_ | refine M.geq_f (by omega) ?_ | refine M.eql_t (by omega) ?_ | refine M.eql_f (by omega) ?_ | refine M.neq_t (by omega) ?_ | refine M.neq_f (by omega) ?_ | refine M.add_i (by omega) (by omega) ?_ | refine M.sub_i (by omega) (by omega) ?_ | refine M.load_i (by assumption) ?_ | refine M.loadB_i (by assumption) rfl ?_ | refine M.st_i (by assumption) ?_ | refine M.stB_i (by assumption) rfl ?_ | refine M.gs_ff ?_ | refine M.gs_tt ?_ | refine M.gs_ft ?_ | refine M.gs_tf ?_ | refine M.stAll_i (by assumption) rfl ?_))
      refine M.toU_i (by omega) (by omega) ?_
      refine M.shift_i (shrU_one _) ?_
      refine M.toI_i (by omega) (by omega) ?_
      rw [eh]
      refine M.idxLV_i hr rfl (by omega) (by omega) (x := y) (by rw [Int.toNat_natCast]; exact hy) (fun bb oo hA hcc => ?_)
      rw [Int.toNat_natCast] at hcc ⊢
      (repeat (first | refine M.len_i ?_ | refine M.nilCheck_i ?_ | refine M.field_i ?_ | refine M.draw_i ?_ | refine M.cap_i ?_ | refine M.gd_tt ?_ | refine M.gd_ff ?_ | refine M.gd_ft ?_ | refine M.gd_tf ?_ | refine M.gd_u ?_ | refine M.pick_t ?_ | refine M.pick_f ?_ | refine M.not_t ?_ | refine M.not_f ?_ | refine M.cond_t ?_ | refine M.cond_f ?_ | refine M.eqNilP_tn ?_ | refine M.eqNilP_ts ?_ | refine M.eqNilP_fn ?_ | refine M.eqNilP_fs ?_ | refine M.eqNilS_tn ?_ | refine M.eqNilS_ts ?_ | refine M.eqNilS_fn ?_ | refine M.eqNilS_fs ?_ | refine M.lss_t (by omega) ?_ | refine M.lss_f (by omega) ?_ | refine M.leq_t (by omega) ?_ | refine M.leq_f (by omega) ?_ | refine M.gtr_t (by omega) ?_ | refine M.gtr_f (by omega) ?_ | refine M.geq_t (by omega) ?_ | refine M.geq_f (by omega) ?_ | refine M.eql_t (by omega) ?_ | refine M.eql_f (by omega) ?_ | refine M.neq_t (by omega) ?_ | refine M.neq_f (by omega) ?_ | refine M.add_i (by omega) (by omega) ?_ | refine M.sub_i (by omega) (by omega) ?_ | refine M.load_i (by assumption) ?_ | refine M.loadB_i (by assumption) rfl ?_ | refine M.st_i (by assumption) ?_ | refine M.stB_i (by assumption) rfl ?_ | refine M.gs_ff ?_ | refine M.gs_tt ?_ | refine M.gs_ft ?_ | refine M.gs_tf ?_ | refine M.stAll_i (by assumption) rfl ?_))
      refine M.call_i (less_ret y x w1) ?_; rintro _ w2 ⟨rfl, rfl⟩
      refine M.cond_i (fun hx => ?_) (fun hx => ?_)
      · (repeat (first | refine M.len_i ?_ | refine M.nilCheck_i ?_ | refine M.field_i ?_ | refine M.draw_i ?_ | refine M.cap_i ?_ | refine M.gd_tt ?_ | refine M.gd_ff ?_ | refine M.gd_ft ?_ | refine M.gd_tf ?_ | refine M.gd_u ?_ | refine M.pick_t ?_ | refine M.pick_f ?_ | refine M.not_t ?_ | refine M.not_f ?_ | refine M.cond_t ?_ | refine M.cond_f ?_ | refine M.eqNilP_tn ?_ | refine M.eqNilP_ts ?_ | refine M.eqNilP_fn ?_ | refine M.eqNilP_fs ?_ | refine M.eqNilS_tn ?_ | refine M.eqNilS_ts ?_ | refine M.eqNilS_fn ?_ | refine M.eqNilS_fs ?_ | refine M.lss_t (by omega) ?_ | refine M.lss_f (by omega) ?_ | refine M.leq_t (by omega) ?_ | refine M.leq_f (by omega) ?_ | refine M.gtr_t (by omega) ?_ | refine M.gtr_f (by omega) ?_ | refine M.geq_t (by omega) ?_ | refine M.geq_f (by omega) ?_ | refine M.eql_t (by omega) ?_ | refine M.eql_f (by omega) ?_ | refine M.neq_t (by omega) ?_ | refine M.neq_f (by omega) ?_ | refine M.add_i (by omega) (by omega) ?_ | refine M.sub_i (by omega) (by omega) ?_ | refine M.load_i (by assumption) ?_ | refine M.loadB_i (by assumption) rfl ?_ | refine M.st_i (by assumption) ?_ | refine M.stB_i (by assumption) rfl ?_ | refine M.gs_ff ?_ | refine M.gs_tt ?_ | refine M.gs_ft ?_ | refine M.gs_tf ?_ | refine M.stAll_i (by assumption) rfl ?_))
        refine hK2 _ _ ⟨(i + j) / 2 + 1, j, by simp, by omega, by omega, hj, fun k z hk hz => ?_, hhi, rfl⟩
        by_cases hkk : k = (i + j) / 2
        · subst hkk; rw [hy] at hz; cases hz; exact hx
        · obtain ⟨g1, g2⟩ := List.getElem?_eq_some_iff.1 hz
          have := hp k ((i + j) / 2) g1 hyl (by omega)
          omega
      · refine hK2 _ _ ⟨i, (i + j) / 2, rfl, by omega, by omega, by omega, hlo, fun k z hk hz => ?_, rfl⟩
        by_cases hkk : k = (i + j) / 2
        · subst hkk; rw [hy] at hz; cases hz; exact hx
        · obtain ⟨g1, g2⟩ := List.getElem?_eq_some_iff.1 hz
          have := hp ((i + j) / 2) k hyl g1 (by omega)
          omega
  · have : i = j := by omega
    subst this
    have noLo : ∀ (k : Nat), k < i → xs[k]? ≠ some x := fun k hk hx => by have := hlo k x hk hx; omega
    by_cases hn : i < xs.length
    · obtain ⟨y, hy⟩ : ∃ y, xs[i]? = some y := ⟨_, List.getElem?_eq_getElem hn⟩
      have hyl := (List.getElem?_eq_some_iff.1 hy).1
      have hye := (List.getElem?_eq_some_iff.1 hy).2
      (repeat (first | refine M.len_i ?_ | refine M.nilCheck_i ?_ | refine M.field_i ?_ | refine M.draw_i ?_ | refine M.cap_i ?_ | refine M.gd_tt ?_ | refine M.gd_ff ?_ | refine M.gd_ft ?_ | refine M.gd_tf ?_ | refine M.gd_u ?_ | refine M.pick_t ?_ | refine M.pick_f ?_ | refine M.not_t ?_ | refine M.not_f ?_ | refine M.cond_t ?_ | refine M.cond_f ?_ | refine M.eqNilP_tn ?_ | refine M.eqNilP_ts ?_ | refine M.eqNilP_fn ?_ | refine M.eqNilP_fs ?_ | refine M.eqNilS_tn ?_ | refine M.eqNilS_ts ?_ | refine M.eqNilS_fn ?_ | refine M.eqNilS_fs ?_ | refine M.lss_t (by omega) ?_ | refine M.lss_f (by omega) ?_ | refine M.leq_t (by omega) ?_ | refine M.leq_f (by omega) ?_ | refine M.gtr_t (by omega) ?_ | refine M.gtr_f (by omega) ?_ | refine M.geq_t (by omega) ?_ | refine M.geq_f (by omega) ?_ | refine M.eql_t (by omega) ?_ | refine M.eql_f (by omega) ?_ | refine M.neq_t (by omega) ?_ | refine M.neq_f (by omega) ?_ | refine M.add_i (by omega) (by omega) ?_ | refine M.sub_i (by omega) (by omega) ?_ | refine M.load_i (by assumption) ?_ | refine M.loadB_i (by assumption) rfl ?_ | refine M.st_i (by assumption) ?_ | refine M.stB_i (by assumption) rfl ?_ | refine M.gs_ff ?_ | refine M.gs_tt ?_ | refine M.gs_ft ?_ | refine M.gs_tf ?_ | refine M.stAll_i (by assumption) rfl ?_))
      refine M.idxLV_i hr rfl (by omega) (by omega) (x := y) (by rw [Int.toNat_natCast]; exact hy) (fun bb oo hA hcc => ?_)
      (repeat (first | refine M.len_i ?_ | refine M.nilCheck_i ?_ | refine M.field_i ?_ | refine M.draw_i ?_ | refine M.cap_i ?_ | refine M.gd_tt ?_ | refine M.gd_ff ?_ | refine M.gd_ft ?_ | refine M.gd_tf ?_ | refine M.gd_u ?_ | refine M.pick_t ?_ | refine M.pick_f ?_ | refine M.not_t ?_ | refine M.not_f ?_ | refine M.cond_t ?_ | refine M.cond_f ?_ | refine M.eqNilP_tn ?_ | refine M.eqNilP_ts ?_ | refine M.eqNilP_fn ?_ | refine M.eqNilP_fs ?_ | refine M.eqNilS_tn ?_ | refine M.eqNilS_ts ?_ | refine M.eqNilS_fn ?_ | refine M.eqNilS_fs ?_ | refine M.lss_t (by omega) ?_ | refine M.lss_f (by omega) ?_ | refine M.leq_t (by omega) ?_ | refine M.leq_f (by omega) ?_ | refine M.gtr_t (by omega) ?_ | refine M.gtr_f (by omega) ?_ | refine M.geq_t (by omega) ?_ | refine M.geq_f (by omega) ?_ | refine M.eql_t (by omega) ?_ | refine M.eql_f (by omega) ?_ | refine M.neq_t (by omega) ?_ | refine M.neq_f (by omega) ?_ | refine M.add_i (by omega) (by omega) ?_ | refine M.sub_i (by omega) (by omega) ?_ | refine M.load_i (by assumption) ?_ | refine M.loadB_i (by assumption) rfl ?_ | refine M.st_i (by assumption) ?_ | refine M.stB_i (by assumption) rfl ?_ | refine M.gs_ff ?_ | refine M.gs_tt ?_ | refine M.gs_ft ?_ | refine M.gs_tf ?_ | refine M.stAll_i (by assumption) rfl ?_))
      by_cases hxy : y = x
      · have : inB xs x = true := inB_iff.2 (hxy ▸ List.mem_of_getElem? hy)
        (repeat (first | refine M.len_i ?_ | refine M.nilCheck_i ?_ | refine M.field_i ?_ | refine M.draw_i ?_ | refine M.cap_i ?_ | refine M.gd_tt ?_ | refine M.gd_ff ?_ | refine M.gd_ft ?_ | refine M.gd_tf ?_ | refine M.gd_u ?_ | refine M.pick_t ?_ | refine M.pick_f ?_ | refine M.not_t ?_ | refine M.not_f ?_ | refine M.cond_t ?_ | refine M.cond_f ?_ | refine M.eqNilP_tn ?_ | refine M.eqNilP_ts ?_ | refine M.eqNilP_fn ?_ | refine M.eqNilP_fs ?_ | refine M.eqNilS_tn ?_ | refine M.eqNilS_ts ?_ | refine M.eqNilS_fn ?_ | refine M.eqNilS_fs ?_ | refine M.lss_t (by omega) ?_ | refine M.lss_f (by omega) ?_ | refine M.leq_t (by omega) ?_ | refine M.leq_f (by omega) ?_ | refine M.gtr_t (by omega) ?_ | refine M.gtr_f (by omega) ?_ | refine M.geq_t (by omega) ?_ | refine M.geq_f (by omega) ?_ | refine M.eql_t (by omega) ?_ | refine M.eql_f (by omega) ?_ | refine M.neq_t (by omega) ?_ | refine M.neq_f (by omega) ?_ | refine M.add_i (by omega) (by omega) ?_ | refine M.sub_i (by omega) (by omega) ?_ | refine M.load_i (by assumption) ?_ | refine M.loadB_i (by assumption) rfl ?_ | refine M.st_i (by assumption) ?_ | refine M.stB_i (by assumption) rfl ?_ | refine M.gs_ff ?_ | refine M.gs_tt ?_ | refine M.gs_ft ?_ | refine M.gs_tf ?_ | refine M.stAll_i (by assumption) rfl ?_))
        exact ⟨i, by rw [this], rfl⟩
      · have : inB xs x = false := by
          rw [Bool.eq_false_iff]
          intro hb
          obtain ⟨k, hk⟩ := List.mem_iff_getElem?.1 (inB_iff.1 hb)
          obtain ⟨g1, g2⟩ := List.getElem?_eq_some_iff.1 hk
          rcases Nat.lt_trichotomy k i with h | h | h
          · exact noLo k h hk
          · subst h; rw [hk] at hy; cases hy; exact hxy rfl
          · have a := hp i k hyl g1 h
            have b := hhi i y (Nat.le_refl _) hy
            omega
        (repeat (first | refine M.len_i ?_ | refine M.nilCheck_i ?_ | refine M.field_i ?_ | refine M.draw_i ?_ | refine M.cap_i ?_ | refine M.gd_tt ?_ | refine M.gd_ff ?_ | refine M.gd_ft ?_ | refine M.gd_tf ?_ | refine M.gd_u ?_ | refine M.pick_t ?_ | refine M.pick_f ?_ | refine M.not_t ?_ | refine M.not_f ?_ | refine M.cond_t ?_ | refine M.cond_f ?_ | refine M.eqNilP_tn ?_ | refine M.eqNilP_ts ?_ | refine M.eqNilP_fn ?_ | refine M.eqNilP_fs ?_ | refine M.eqNilS_tn ?_ | refine M.eqNilS_ts ?_ | refine M.eqNilS_fn ?_ | refine M.eqNilS_fs ?_ | refine M.lss_t (by omega) ?_ | refine M.lss_f (by omega) ?_ | refine M.leq_t (by omega) ?_ | refine M.leq_f (by omega) ?_ | refine M.gtr_t (by omega) ?_ | refine M.gtr_f (by omega) ?_ | refine M.geq_t (by omega) ?_ | refine M.geq_f (by omega) ?_ | refine M.eql_t (by omega) ?_ | refine M.eql_f (by omega) ?_ | refine M.neq_t (by omega) ?_ | refine M.neq_f (by omega) ?_ | refine M.add_i (by omega) (by omega) ?_ | refine M.sub_i (by omega) (by omega) ?_ | refine M.load_i (by assumption) ?_ | refine M.loadB_i (by assumption) rfl ?_ | refine M.st_i (by assumption) ?_ | refine M.stB_i (by assumption) rfl ?_ | refine M.gs_ff ?_ | refine M.gs_tt ?_ | refine M.gs_ft ?_ | refine M.gs_tf ?_ | refine M.stAll_i (by assumption) rfl ?_))
        refine M.idxLV_i hr rfl (by omega) (by omega) (x := y) (by rw [Int.toNat_natCast]; exact hy) (fun bb oo hA hcc => ?_)
        (repeat (first | refine M.len_i ?_ | refine M.nilCheck_i ?_ | refine M.field_i ?_ | refine M.draw_i ?_ | refine M.cap_i ?_ | refine M.gd_tt ?_ | refine M.gd_ff ?_ | refine M.gd_ft ?_ | refine M.gd_tf ?_ | refine M.gd_u ?_ | refine M.pick_t ?_ | refine M.pick_f ?_ | refine M.not_t ?_ | refine M.not_f ?_ | refine M.cond_t ?_ | refine M.cond_f ?_ | refine M.eqNilP_tn ?_ | refine M.eqNilP_ts ?_ | refine M.eqNilP_fn ?_ | refine M.eqNilP_fs ?_ | refine M.eqNilS_tn ?_ | refine M.eqNilS_ts ?_ | refine M.eqNilS_fn ?_ | refine M.eqNilS_fs ?_ | refine M.lss_t (by omega) ?_ | refine M.lss_f (by omega) ?_ | refine M.leq_t (by omega) ?_ | refine M.leq_f (by omega) ?_ | refine M.gtr_t (by omega) ?_ | refine M.gtr_f (by omega) ?_ | refine M.geq_t (by omega) ?_ | refine M.geq_f (by omega) ?_ | refine M.eql_t (by omega) ?_ | refine M.eql_f (by omega) ?_ | refine M.neq_t (by omega) ?_ | refine M.neq_f (by omega) ?_ | refine M.add_i (by omega) (by omega) ?_ | refine M.sub_i (by omega) (by omega) ?_ | refine M.load_i (by assumption) ?_ | refine M.loadB_i (by assumption) rfl ?_ | refine M.st_i (by assumption) ?_ | refine M.stB_i (by assumption) rfl ?_ | refine M.gs_ff ?_ | refine M.gs_tt ?_ | refine M.gs_ft ?_ | refine M.gs_tf ?_ | refine M.stAll_i (by assumption) rfl ?_))
        have nn : ∀ z : Int, Ret Try.prog 106 #[vi z] w1 (fun r w' => r = .bool false ∧ w' = w1) := fun z => by
          refine ok106 _ _ _ ?_
          unfold sh106
          refine M.neq_f rfl ⟨rfl, rfl⟩
        refine M.call_i (nn y) ?_; rintro _ w2 ⟨rfl, rfl⟩
        (repeat (first | refine M.len_i ?_ | refine M.nilCheck_i ?_ | refine M.field_i ?_ | refine M.draw_i ?_ | refine M.cap_i ?_ | refine M.gd_tt ?_ | refine M.gd_ff ?_ | refine M.gd_ft ?_ | refine M.gd_tf ?_ | refine M.gd_u ?_ | refine M.pick_t ?_ | refine M.pick_f ?_ | refine M.not_t ?_ | refine M.not_f ?_ | refine M.cond_t ?_ | refine M.cond_f ?_ | refine M.eqNilP_tn ?_ | refine M.eqNilP_ts ?_ | refine M.eqNilP_fn ?_ | refine M.eqNilP_fs ?_ | refine M.eqNilS_tn ?_ | refine M.eqNilS_ts ?_ | refine M.eqNilS_fn ?_ | refine M.eqNilS_fs ?_ | refine M.lss_t (by omega) ?_ | refine M.lss_f (by omega) ?_ | refine M.leq_t (by omega) ?_ | refine M.leq_f (by omega) ?_ | refine M.gtr_t (by omega) ?_ | refine M.gtr_f (by omega) ?_ | refine M.geq_t (by omega) ?_ | refine M.geq_f (by omega) ?_ | refine M.eql_t (by omega) ?_ | refine M.eql_f (by omega) ?_ | refine M.neq_t (by omega) ?_ | refine M.neq_f (by omega) ?_ | refine M.add_i (by omega) (by omega) ?_ | refine M.sub_i (by omega) (by omega) ?_ | refine M.load_i (by assumption) ?_ | refine M.loadB_i (by assumption) rfl ?_ | refine M.st_i (by assumption) ?_ | refine M.stB_i (by assumption) rfl ?_ | refine M.gs_ff ?_ | refine M.gs_tt ?_ | refine M.gs_ft ?_ | refine M.gs_tf ?_ | refine M.stAll_i (by assumption) rfl ?_))
        exact ⟨i, by rw [this], rfl⟩
    · have : inB xs x = false := by
        rw [Bool.eq_false_iff]
        intro hb
        obtain ⟨k, hk⟩ := List.mem_iff_getElem?.1 (inB_iff.1 hb)
        obtain ⟨g1, g2⟩ := List.getElem?_eq_some_iff.1 hk
        exact noLo k (by omega) hk
      (repeat (first | refine M.len_i ?_ | refine M.nilCheck_i ?_ | refine M.field_i ?_ | refine M.draw_i ?_ | refine M.cap_i ?_ | refine M.gd_tt ?_ | refine M.gd_ff ?_ | refine M.gd_ft ?_ | refine M.gd_tf ?_ | refine M.gd_u ?_ | refine M.pick_t ?_ | refine M.pick_f ?_ | refine M.not_t ?_ | refine M.not_f ?_ | refine M.cond_t ?_ | refine M.cond_f ?_ | refine M.eqNilP_tn ?_ | refine M.eqNilP_ts ?_ | refine M.eqNilP_fn ?_ | refine M.eqNilP_fs ?_ | refine M.eqNilS_tn ?_ | refine M.eqNilS_ts ?_ | refine M.eqNilS_fn ?_ | refine M.eqNilS_fs ?_ | refine M.lss_t (by omega) ?_ | refine M.lss_f (by omega) ?_ | refine M.leq_t (by omega) ?_ | refine M.leq_f (by omega) ?_ | refine M.gtr_t (by omega) ?_ | refine M.gtr_f (by omega) ?_ | refine M.geq_t (by omega) ?_ | refine M.geq_f (by omega) ?_ | refine M.eql_t (by omega) ?_ | refine M.eql_f (by omega) ?_ | refine M.neq_t (by omega) ?_ | refine M.neq_f (by omega) ?_ | refine M.add_i (by omega) (by omega) ?_ | refine M.sub_i (by omega) (by omega) ?_ | refine M.load_i (by assumption) ?_ | refine M.loadB_i (by assumption) rfl ?_ | refine M.st_i (by assumption) ?_ | refine M.stB_i (by assumption) rfl ?_ | refine M.gs_ff ?_ | refine M.gs_tt ?_ | refine M.gs_ft ?_ | refine M.gs_tf ?_ | refine M.stAll_i (by assumption) rfl ?_))
      exact ⟨i, by rw [this], rfl⟩
/-- The closure 'holds' of Units. -/
theorem inC {D : Nat → Prop} {v : Value} {set : List Int} {p : Nat} (hf : set.length ≤ 100000000) (hs : set.Pairwise (· < ·)) :
    PredF (.func (.func 65) #[] #[ptr p]) (fun w => Blk w p [v] ∧ LV vi w D v set) (inB set) := by
  rintro x w k ⟨hb, hm⟩ hk
  refine M.callv_i (enters_of Try.func65 (by kernel_rfl) rfl) (Q := fun r w' => r = .bool (inB set x) ∧ w' = w) ?_ ?_
  · show Ret Try.prog 65 #[vi x, ptr p] w _
    refine ok65 _ _ _ _ ?_
    unfold sh65
    (repeat (first | refine M.len_i ?_ | refine M.nilCheck_i ?_ | refine M.field_i ?_ | refine M.draw_i ?_ | refine M.cap_i ?_ | refine M.gd_tt ?_ | refine M.gd_ff ?_ | refine M.gd_ft ?_ | refine M.gd_tf ?_ | refine M.gd_u ?_ | refine M.pick_t ?_ | refine M.pick_f ?_ | refine M.not_t ?_ | refine M.not_f ?_ | refine M.cond_t ?_ | refine M.cond_f ?_ | refine M.eqNilP_tn ?_ | refine M.eqNilP_ts ?_ | refine M.eqNilP_fn ?_ | refine M.eqNilP_fs ?_ | refine M.eqNilS_tn ?_ | refine M.eqNilS_ts ?_ | refine M.eqNilS_fn ?_ | refine M.eqNilS_fs ?_ | refine M.lss_t (by omega) ?_ | refine M.lss_f (by omega) ?_ | refine M.leq_t (by omega) ?_ | refine M.leq_f (by omega) ?_ | refine M.gtr_t (by omega) ?_ | refine M.gtr_f (by omega) ?_ | refine M.geq_t (by omega) ?_ | refine M.geq_f (by omega) ?_ | refine M.eql_t (by omega) ?_ | refine M.eql_f (by omega) ?_ | refine M.neq_t (by omega) ?_ | refine M.neq_f (by omega) ?_ | refine M.add_i (by omega) (by omega) ?_ | refine M.sub_i (by omega) (by omega) ?_ | refine M.load_i (by assumption) ?_ | refine M.loadB_i (by assumption) rfl ?_ | refine M.st_i (by assumption) ?_ | refine M.stB_i (by assumption) rfl ?_ | refine M.gs_ff ?_ | refine M.gs_tt ?_ | refine M.gs_ft ?_ | refine M.gs_tf ?_ | refine M.stAll_i (by assumption) rfl ?_))
    refine M.call_i (bsearch_ret hm hf hs x) ?_; rintro _ w1 ⟨i, rfl, rfl⟩
    refine M.extract_i rfl ?_
    refine M.extract_i rfl ?_
    exact ⟨rfl, rfl⟩
  · rintro r w1 ⟨rfl, rfl⟩
    exact hk w1 ⟨hb, hm⟩ (Keep.refl _ _)
theorem leftC_snoc (set c : List Int) (x : Int) : leftC set (c ++ [x]) = leftC set c ++ if inB set (notOf x) then [] else [x] := by
  unfold leftC
  rw [List.filter_append]
  congr 1
  cases h : inB set (notOf x) <;> simp [h]
theorem unitsL_snoc (set : List Int) (l : List (List Int)) (c : List Int) : unitsL set (l ++ [c]) = unitsL set l ++ if c.any (inB set) then [] else [leftC set c] := by
  unfold unitsL
  rw [List.filter_append, List.map_append]
  congr 1
  cases h : c.any (inB set) <;> simp [h]
theorem take_snoc {α : Type} {l : List α} {i : Nat} {x : α} (h : l[i]? = some x) : l.take (i + 1) = l.take i ++ [x] := by
  rw [List.take_add_one, h]; rfl
theorem LLr.fewC {l : List (List Int)} {s : List Int} (h : FewL l s) : ∀ c ∈ l, c.length ≤ 100000000 := fun c hc => by
  have : c.length ≤ l.flatten.length := List.Sublist.length_le (List.sublist_flatten_of_mem hc)
  unfold FewL at h
  rw [List.length_append] at h
  omega
set_option maxHeartbeats 2000000 in
theorem units_ret {w : World} {D : Nat → Prop} {u : Value} {l : List (List Int)} (hl : LL w D u l) (hf : FewL l []) (hfl : l.length ≤ 1000000) (hI : ∀ c ∈ l, ∀ x ∈ c, I64 x) :
    Ret Try.prog 29 #[u] w (fun r w' => ∃ a b set k, r = .tuple #[a, b, .bool k] ∧ CloseR l [] set k ∧ LL w' (fun _ => True) a (if k then unitsL set l else []) ∧ LV vi w' (fun _ => True) b set ∧ Keep w w' No) := by
  obtain ⟨A, cp, us, rfl, hlr, hcp⟩ := id hl
  refine ok29 _ _ _ ?_
  unfold sh29
  refine M.call_i (close_ret hl (LV.nil vi w No) hf (by omega) hI (by simp)) ?_; rintro _ w1 ⟨o, set, k, rfl, hR, g1, k1⟩
  refine M.extract_i rfl ?_
  refine M.extract_i rfl ?_
  have hslen := hR.len hf
  obtain ⟨B, cb, rfl, hrb, _⟩ := id g1.lv
  refine M.new_i (l := [.slice none 0 0]) (fun w2 b2 k2 s2 => ?_)
  refine M.store_i b2 (by simp) rfl (fun w3 b3 k3 s3 => ?_)
  have q1 := k1.size
  have k13 : Keep w1 w3 No := k2.trans k3 (fun b hb h => by omega)
  have k03 : Keep w w3 No := k1.trans k13 (fun _ _ h => h)
  have hset := (GI.ofL g1 (fun _ => True) (fun _ _ _ => trivial)).keep k13 (fun _ _ _ h => h)
  refine M.not_i ?_
  cases k with
  | false =>
    (repeat (first | refine M.len_i ?_ | refine M.nilCheck_i ?_ | refine M.field_i ?_ | refine M.draw_i ?_ | refine M.cap_i ?_ | refine M.gd_tt ?_ | refine M.gd_ff ?_ | refine M.gd_ft ?_ | refine M.gd_tf ?_ | refine M.gd_u ?_ | refine M.pick_t ?_ | refine M.pick_f ?_ | refine M.not_t ?_ | refine M.not_f ?_ | refine M.cond_t ?_ | refine M.cond_f ?_ | refine M.eqNilP_tn ?_ | refine M.eqNilP_ts ?_ | refine M.eqNilP_fn ?_ | refine M.eqNilP_fs ?_ | refine M.eqNilS_tn ?_ | refine M.eqNilS_ts ?_ | refine M.eqNilS_fn ?_ | refine M.eqNilS_fs ?_ | refine M.lss_t (by omega) ?_ | refine M.lss_f (by omega) ?_ | refine M.leq_t (by omega) ?_ | refine M.leq_f (by omega) ?_ | refine M.gtr_t (by omega) ?_ | refine M.gtr_f (by omega) ?_ | refine M.geq_t (by omega) ?_ | refine M.geq_f (by omega) ?_ | refine M.eql_t (by omega) ?_ | refine M.eql_f (by omega) ?_ | refine M.neq_t (by omega) ?_ | refine M.neq_f (by omega) ?_ | refine M.add_i (by omega) (by omega) ?_ | refine M.sub_i (by omega) (by omega) ?_ | refine M.load_i (by assumption) ?_ | refine M.loadB_i (by assumption) rfl ?_ | refine M.st_i (by assumption) ?_ | refine M.stB_i (by assumption) rfl ?_ | refine M.gs_ff ?_ | refine M.gs_tt ?_ | refine M.gs_ft ?_ | refine M.gs_tf ?_ | refine M.stAll_i (by assumption) rfl ?_))
    obtain ⟨_, rfl, hbot⟩ | ⟨h, _⟩ := hR
    · exact ⟨_, _, [], false, rfl, .inl ⟨rfl, rfl, hbot⟩, (LL.nil w3).mono (fun _ _ _ => trivial), (LV.nil vi w3 No).mono (fun _ _ _ => trivial), k03⟩
    · simp at h
  | true =>
    have hsort : set.Pairwise (· < ·) := by
      obtain ⟨h, _⟩ | ⟨_, _, h, _⟩ := hR
      · simp at h
      · exact h
    have hl3 := hlr.keep k03 (fun _ _ _ h => h)
    have b3 : Blk w3 w1.heap.size [.slice B set.length cb] := b3
    (repeat (first | refine M.len_i ?_ | refine M.nilCheck_i ?_ | refine M.field_i ?_ | refine M.draw_i ?_ | refine M.cap_i ?_ | refine M.gd_tt ?_ | refine M.gd_ff ?_ | refine M.gd_ft ?_ | refine M.gd_tf ?_ | refine M.gd_u ?_ | refine M.pick_t ?_ | refine M.pick_f ?_ | refine M.not_t ?_ | refine M.not_f ?_ | refine M.cond_t ?_ | refine M.cond_f ?_ | refine M.eqNilP_tn ?_ | refine M.eqNilP_ts ?_ | refine M.eqNilP_fn ?_ | refine M.eqNilP_fs ?_ | refine M.eqNilS_tn ?_ | refine M.eqNilS_ts ?_ | refine M.eqNilS_fn ?_ | refine M.eqNilS_fs ?_ | refine M.lss_t (by omega) ?_ | refine M.lss_f (by omega) ?_ | refine M.leq_t (by omega) ?_ | refine M.leq_f (by omega) ?_ | refine M.gtr_t (by omega) ?_ | refine M.gtr_f (by omega) ?_ | refine M.geq_t (by omega) ?_ | refine M.geq_f (by omega) ?_ | refine M.eql_t (by omega) ?_ | refine M.eql_f (by omega) ?_ | refine M.neq_t (by omega) ?_ | refine M.neq_f (by omega) ?_ | refine M.add_i (by omega) (by omega) ?_ | refine M.sub_i (by omega) (by omega) ?_ | refine M.load_i (by assumption) ?_ | refine M.loadB_i (by assumption) rfl ?_ | refine M.st_i (by assumption) ?_ | refine M.stB_i (by assumption) rfl ?_ | refine M.gs_ff ?_ | refine M.gs_tt ?_ | refine M.gs_ft ?_ | refine M.gs_tf ?_ | refine M.stAll_i (by assumption) rfl ?_))
    refine M.loop_i (σ := Nat) (fun i vals w' => ∃ vo us', vals = [vo, vi i] ∧ i ≤ l.length ∧ OL w3 w' vo us' (unitsL set (l.take i)) ∧ Keep w3 w' No) (fun i => l.length - i) 0
      ⟨_, [], rfl, by omega, OL.nil _ _, Keep.refl _ _⟩ ?_
    rintro i vals w4 K ⟨vo, us', rfl, hi, ho, k4⟩ hK _
    simp only [List.getD_cons_zero, List.getD_cons_succ]
    have hl4 := hl3.keep k4 (fun _ _ _ h => h)
    have b4 := b3.keep k4 (fun h => h)
    have hset4 := hset.keep k4 (fun _ _ _ h => h)
    have q4 := k4.size
    by_cases hlt : i < l.length
    · obtain ⟨c, hc⟩ : ∃ c, l[i]? = some c := ⟨_, List.getElem?_eq_getElem hlt⟩
      have hcm := List.mem_of_getElem? hc
      have hcl := LLr.fewC hf c hcm
      (repeat (first | refine M.len_i ?_ | refine M.nilCheck_i ?_ | refine M.field_i ?_ | refine M.draw_i ?_ | refine M.cap_i ?_ | refine M.gd_tt ?_ | refine M.gd_ff ?_ | refine M.gd_ft ?_ | refine M.gd_tf ?_ | refine M.gd_u ?_ | refine M.pick_t ?_ | refine M.pick_f ?_ | refine M.not_t ?_ | refine M.not_f ?_ | refine M.cond_t ?_ | refine M.cond_f ?_ | refine M.eqNilP_tn ?_ | refine M.eqNilP_ts ?_ | refine M.eqNilP_fn ?_ | refine M.eqNilP_fs ?_ | refine M.eqNilS_tn ?_ | refine M.eqNilS_ts ?_ | refine M.eqNilS_fn ?_ | refine M.eqNilS_fs ?_ | refine M.lss_t (by omega) ?_ | refine M.lss_f (by omega) ?_ | refine M.leq_t (by omega) ?_ | refine M.leq_f (by omega) ?_ | refine M.gtr_t (by omega) ?_ | refine M.gtr_f (by omega) ?_ | refine M.geq_t (by omega) ?_ | refine M.geq_f (by omega) ?_ | refine M.eql_t (by omega) ?_ | refine M.eql_f (by omega) ?_ | refine M.neq_t (by omega) ?_ | refine M.neq_f (by omega) ?_ | refine M.add_i (by omega) (by omega) ?_ | refine M.sub_i (by omega) (by omega) ?_ | refine M.load_i (by assumption) ?_ | refine M.loadB_i (by assumption) rfl ?_ | refine M.st_i (by assumption) ?_ | refine M.stB_i (by assumption) rfl ?_ | refine M.gs_ff ?_ | refine M.gs_tt ?_ | refine M.gs_ft ?_ | refine M.gs_tf ?_ | refine M.stAll_i (by assumption) rfl ?_))
      refine M.share_j (fun vals w' => ∃ vo us', vals = [vo] ∧ OL w3 w' vo us' (unitsL set (l.take (i + 1))) ∧ Keep w3 w' No) ?_ ?_
      · rintro vals w5 ⟨vo, us', rfl, ho, k5⟩ _
        simp only [List.getD_cons_zero, List.getD_cons_succ]
        (repeat (first | refine M.len_i ?_ | refine M.nilCheck_i ?_ | refine M.field_i ?_ | refine M.draw_i ?_ | refine M.cap_i ?_ | refine M.gd_tt ?_ | refine M.gd_ff ?_ | refine M.gd_ft ?_ | refine M.gd_tf ?_ | refine M.gd_u ?_ | refine M.pick_t ?_ | refine M.pick_f ?_ | refine M.not_t ?_ | refine M.not_f ?_ | refine M.cond_t ?_ | refine M.cond_f ?_ | refine M.eqNilP_tn ?_ | refine M.eqNilP_ts ?_ | refine M.eqNilP_fn ?_ | refine M.eqNilP_fs ?_ | refine M.eqNilS_tn ?_ | refine M.eqNilS_ts ?_ | refine M.eqNilS_fn ?_ | refine M.eqNilS_fs ?_ | refine M.lss_t (by omega) ?_ | refine M.lss_f (by omega) ?_ | refine M.leq_t (by omega) ?_ | refine M.leq_f (by omega) ?_ | refine M.gtr_t (by omega) ?_ | refine M.gtr_f (by omega) ?_ | refine M.geq_t (by omega) ?_ | refine M.geq_f (by omega) ?_ | refine M.eql_t (by omega) ?_ | refine M.eql_f (by omega) ?_ | refine M.neq_t (by omega) ?_ | refine M.neq_f (by omega) ?_ | refine M.add_i (by omega) (by omega) ?_ | refine M.sub_i (by omega) (by omega) ?_ | refine M.load_i (by assumption) ?_ | refine M.loadB_i (by assumption) rfl ?_ | refine M.st_i (by assumption) ?_ | refine M.stB_i (by assumption) rfl ?_ | refine M.gs_ff ?_ | refine M.gs_tt ?_ | refine M.gs_ft ?_ | refine M.gs_tf ?_ | refine M.stAll_i (by assumption) rfl ?_))
        exact hK (i + 1) _ _ (by omega) ⟨vo, us', by simp, by omega, ho, k5⟩
      · intro K2 hK2
        refine M.idxLL_i hl4 rfl (by omega) (c := c) (by simpa using hc) (fun bb oo u hcell hu => ?_)
        (repeat (first | refine M.len_i ?_ | refine M.nilCheck_i ?_ | refine M.field_i ?_ | refine M.draw_i ?_ | refine M.cap_i ?_ | refine M.gd_tt ?_ | refine M.gd_ff ?_ | refine M.gd_ft ?_ | refine M.gd_tf ?_ | refine M.gd_u ?_ | refine M.pick_t ?_ | refine M.pick_f ?_ | refine M.not_t ?_ | refine M.not_f ?_ | refine M.cond_t ?_ | refine M.cond_f ?_ | refine M.eqNilP_tn ?_ | refine M.eqNilP_ts ?_ | refine M.eqNilP_fn ?_ | refine M.eqNilP_fs ?_ | refine M.eqNilS_tn ?_ | refine M.eqNilS_ts ?_ | refine M.eqNilS_fn ?_ | refine M.eqNilS_fs ?_ | refine M.lss_t (by omega) ?_ | refine M.lss_f (by omega) ?_ | refine M.leq_t (by omega) ?_ | refine M.leq_f (by omega) ?_ | refine M.gtr_t (by omega) ?_ | refine M.gtr_f (by omega) ?_ | refine M.geq_t (by omega) ?_ | refine M.geq_f (by omega) ?_ | refine M.eql_t (by omega) ?_ | refine M.eql_f (by omega) ?_ | refine M.neq_t (by omega) ?_ | refine M.neq_f (by omega) ?_ | refine M.add_i (by omega) (by omega) ?_ | refine M.sub_i (by omega) (by omega) ?_ | refine M.load_i (by assumption) ?_ | refine M.loadB_i (by assumption) rfl ?_ | refine M.st_i (by assumption) ?_ | refine M.stB_i (by assumption) rfl ?_ | refine M.gs_ff ?_ | refine M.gs_tt ?_ | refine M.gs_ft ?_ | refine M.gs_tf ?_ | refine M.stAll_i (by assumption) rfl ?_))
        obtain ⟨A2, c2, rfl, hr2, hc2⟩ := id hu
        refine M.call_i (containsFunc_ret hu (by omega) (inC hslen hsort) ⟨b4, hset4⟩) ?_; rintro _ w5 ⟨rfl, hI5, k5⟩
        have e1 := unitsL_snoc set (l.take i) c
        rw [← take_snoc hc] at e1
        cases hb : c.any (inB set) with
        | true =>
          (repeat (first | refine M.len_i ?_ | refine M.nilCheck_i ?_ | refine M.field_i ?_ | refine M.draw_i ?_ | refine M.cap_i ?_ | refine M.gd_tt ?_ | refine M.gd_ff ?_ | refine M.gd_ft ?_ | refine M.gd_tf ?_ | refine M.gd_u ?_ | refine M.pick_t ?_ | refine M.pick_f ?_ | refine M.not_t ?_ | refine M.not_f ?_ | refine M.cond_t ?_ | refine M.cond_f ?_ | refine M.eqNilP_tn ?_ | refine M.eqNilP_ts ?_ | refine M.eqNilP_fn ?_ | refine M.eqNilP_fs ?_ | refine M.eqNilS_tn ?_ | refine M.eqNilS_ts ?_ | refine M.eqNilS_fn ?_ | refine M.eqNilS_fs ?_ | refine M.lss_t (by omega) ?_ | refine M.lss_f (by omega) ?_ | refine M.leq_t (by omega) ?_ | refine M.leq_f (by omega) ?_ | refine M.gtr_t (by omega) ?_ | refine M.gtr_f (by omega) ?_ | refine M.geq_t (by omega) ?_ | refine M.geq_f (by omega) ?_ | refine M.eql_t (by omega) ?_ | refine M.eql_f (by omega) ?_ | refine M.neq_t (by omega) ?_ | refine M.neq_f (by omega) ?_ | refine M.add_i (by omega) (by omega) ?_ | refine M.sub_i (by omega) (by omega) ?_ | refine M.load_i (by assumption) ?_ | refine M.loadB_i (by assumption) rfl ?_ | refine M.st_i (by assumption) ?_ | refine M.stB_i (by assumption) rfl ?_ | refine M.gs_ff ?_ | refine M.gs_tt ?_ | refine M.gs_ft ?_ | refine M.gs_tf ?_ | refine M.stAll_i (by assumption) rfl ?_))
          rw [hb] at e1
          simp only [if_true, List.append_nil] at e1
          exact hK2 _ _ ⟨vo, us', rfl, e1 ▸ ho.keep k5, k4.trans k5 (fun _ _ h => h)⟩
        | false =>
          rw [hb] at e1
          simp only [Bool.false_eq_true, if_false] at e1
          (repeat (first | refine M.len_i ?_ | refine M.nilCheck_i ?_ | refine M.field_i ?_ | refine M.draw_i ?_ | refine M.cap_i ?_ | refine M.gd_tt ?_ | refine M.gd_ff ?_ | refine M.gd_ft ?_ | refine M.gd_tf ?_ | refine M.gd_u ?_ | refine M.pick_t ?_ | refine M.pick_f ?_ | refine M.not_t ?_ | refine M.not_f ?_ | refine M.cond_t ?_ | refine M.cond_f ?_ | refine M.eqNilP_tn ?_ | refine M.eqNilP_ts ?_ | refine M.eqNilP_fn ?_ | refine M.eqNilP_fs ?_ | refine M.eqNilS_tn ?_ | refine M.eqNilS_ts ?_ | refine M.eqNilS_fn ?_ | refine M.eqNilS_fs ?_ | refine M.lss_t (by omega) ?_ | refine M.lss_f (by omega) ?_ | refine M.leq_t (by omega) ?_ | refine M.leq_f (by omega) ?_ | refine M.gtr_t (by omega) ?_ | refine M.gtr_f (by omega) ?_ | refine M.geq_t (by omega) ?_ | refine M.geq_f (by omega) ?_ | refine M.eql_t (by omega) ?_ | refine M.eql_f (by omega) ?_ | refine M.neq_t (by omega) ?_ | refine M.neq_f (by omega) ?_ | refine M.add_i (by omega) (by omega) ?_ | refine M.sub_i (by omega) (by omega) ?_ | refine M.load_i (by assumption) ?_ | refine M.loadB_i (by assumption) rfl ?_ | refine M.st_i (by assumption) ?_ | refine M.stB_i (by assumption) rfl ?_ | refine M.gs_ff ?_ | refine M.gs_tt ?_ | refine M.gs_ft ?_ | refine M.gs_tf ?_ | refine M.stAll_i (by assumption) rfl ?_))
          have hr5 := hr2.keep k5 (fun _ _ _ h => h)
          have ho5 := ho.keep k5
          refine M.loop_i (σ := Nat) (fun j vals w' => ∃ lv, vals = [lv, vi j] ∧ j ≤ c.length ∧ GI w' (w5.heap.size ≤ ·) lv (leftC set (c.take j)) ∧ Keep w5 w' No) (fun j => c.length - j) 0
            ⟨_, rfl, by omega, by simpa [leftC] using GI.nil _ _, Keep.refl _ _⟩ ?_
          rintro j vals w6 K3 ⟨lv, rfl, hj, gl, k6⟩ hK3 _
          simp only [List.getD_cons_zero, List.getD_cons_succ]
          have hr6 := hr5.keep k6 (fun _ _ _ h => h)
          have q6 := k6.size
          by_cases hjl : j < c.length
          · obtain ⟨x, hx⟩ : ∃ x, c[j]? = some x := ⟨_, List.getElem?_eq_getElem hjl⟩
            have hlen : (leftC set (c.take j)).length ≤ c.length := Nat.le_trans (List.length_filter_le _ _) (by simp; omega)
            (repeat (first | refine M.len_i ?_ | refine M.nilCheck_i ?_ | refine M.field_i ?_ | refine M.draw_i ?_ | refine M.cap_i ?_ | refine M.gd_tt ?_ | refine M.gd_ff ?_ | refine M.gd_ft ?_ | refine M.gd_tf ?_ | refine M.gd_u ?_ | refine M.pick_t ?_ | refine M.pick_f ?_ | refine M.not_t ?_ | refine M.not_f ?_ | refine M.cond_t ?_ | refine M.cond_f ?_ | refine M.eqNilP_tn ?_ | refine M.eqNilP_ts ?_ | refine M.eqNilP_fn ?_ | refine M.eqNilP_fs ?_ | refine M.eqNilS_tn ?_ | refine M.eqNilS_ts ?_ | refine M.eqNilS_fn ?_ | refine M.eqNilS_fs ?_ | refine M.lss_t (by omega) ?_ | refine M.lss_f (by omega) ?_ | refine M.leq_t (by omega) ?_ | refine M.leq_f (by omega) ?_ | refine M.gtr_t (by omega) ?_ | refine M.gtr_f (by omega) ?_ | refine M.geq_t (by omega) ?_ | refine M.geq_f (by omega) ?_ | refine M.eql_t (by omega) ?_ | refine M.eql_f (by omega) ?_ | refine M.neq_t (by omega) ?_ | refine M.neq_f (by omega) ?_ | refine M.add_i (by omega) (by omega) ?_ | refine M.sub_i (by omega) (by omega) ?_ | refine M.load_i (by assumption) ?_ | refine M.loadB_i (by assumption) rfl ?_ | refine M.st_i (by assumption) ?_ | refine M.stB_i (by assumption) rfl ?_ | refine M.gs_ff ?_ | refine M.gs_tt ?_ | refine M.gs_ft ?_ | refine M.gs_tf ?_ | refine M.stAll_i (by assumption) rfl ?_))
            refine M.share_j (fun vals w' => ∃ lv, vals = [lv] ∧ GI w' (w5.heap.size ≤ ·) lv (leftC set (c.take (j + 1))) ∧ Keep w5 w' No) ?_ ?_
            · rintro vals w7 ⟨lv, rfl, gl, k7⟩ _
              simp only [List.getD_cons_zero, List.getD_cons_succ]
              (repeat (first | refine M.len_i ?_ | refine M.nilCheck_i ?_ | refine M.field_i ?_ | refine M.draw_i ?_ | refine M.cap_i ?_ | refine M.gd_tt ?_ | refine M.gd_ff ?_ | refine M.gd_ft ?_ | refine M.gd_tf ?_ | refine M.gd_u ?_ | refine M.pick_t ?_ | refine M.pick_f ?_ | refine M.not_t ?_ | refine M.not_f ?_ | refine M.cond_t ?_ | refine M.cond_f ?_ | refine M.eqNilP_tn ?_ | refine M.eqNilP_ts ?_ | refine M.eqNilP_fn ?_ | refine M.eqNilP_fs ?_ | refine M.eqNilS_tn ?_ | refine M.eqNilS_ts ?_ | refine M.eqNilS_fn ?_ | refine M.eqNilS_fs ?_ | refine M.lss_t (by omega) ?_ | refine M.lss_f (by omega) ?_ | refine M.leq_t (by omega) ?_ | refine M.leq_f (by omega) ?_ | refine M.gtr_t (by omega) ?_ | refine M.gtr_f (by omega) ?_ | refine M.geq_t (by omega) ?_ | refine M.geq_f (by omega) ?_ | refine M.eql_t (by omega) ?_ | refine M.eql_f (by omega) ?_ | refine M.neq_t (by omega) ?_ | refine M.neq_f (by omega) ?_ | refine M.add_i (by omega) (by omega) ?_ | refine M.sub_i (by omega) (by omega) ?_ | refine M.load_i (by assumption) ?_ | refine M.loadB_i (by assumption) rfl ?_ | refine M.st_i (by assumption) ?_ | refine M.stB_i (by assumption) rfl ?_ | refine M.gs_ff ?_ | refine M.gs_tt ?_ | refine M.gs_ft ?_ | refine M.gs_tf ?_ | refine M.stAll_i (by assumption) rfl ?_))
              exact hK3 (j + 1) _ _ (by omega) ⟨lv, by simp, by omega, gl, k7⟩
            · intro K4 hK4
              refine M.idxLV_i hr6 rfl (by omega) (by omega) (x := x) (by simpa using hx) (fun bb oo hA hcc => ?_)
              (repeat (first | refine M.len_i ?_ | refine M.nilCheck_i ?_ | refine M.field_i ?_ | refine M.draw_i ?_ | refine M.cap_i ?_ | refine M.gd_tt ?_ | refine M.gd_ff ?_ | refine M.gd_ft ?_ | refine M.gd_tf ?_ | refine M.gd_u ?_ | refine M.pick_t ?_ | refine M.pick_f ?_ | refine M.not_t ?_ | refine M.not_f ?_ | refine M.cond_t ?_ | refine M.cond_f ?_ | refine M.eqNilP_tn ?_ | refine M.eqNilP_ts ?_ | refine M.eqNilP_fn ?_ | refine M.eqNilP_fs ?_ | refine M.eqNilS_tn ?_ | refine M.eqNilS_ts ?_ | refine M.eqNilS_fn ?_ | refine M.eqNilS_fs ?_ | refine M.lss_t (by omega) ?_ | refine M.lss_f (by omega) ?_ | refine M.leq_t (by omega) ?_ | refine M.leq_f (by omega) ?_ | refine M.gtr_t (by omega) ?_ | refine M.gtr_f (by omega) ?_ | refine M.geq_t (by omega) ?_ | refine M.geq_f (by omega) ?_ | refine M.eql_t (by omega) ?_ | refine M.eql_f (by omega) ?_ | refine M.neq_t (by omega) ?_ | refine M.neq_f (by omega) ?_ | refine M.add_i (by omega) (by omega) ?_ | refine M.sub_i (by omega) (by omega) ?_ | refine M.load_i (by assumption) ?_ | refine M.loadB_i (by assumption) rfl ?_ | refine M.st_i (by assumption) ?_ | refine M.stB_i (by assumption) rfl ?_ | refine M.gs_ff ?_ | refine M.gs_tt ?_ | refine M.gs_ft ?_ | refine M.gs_tf ?_ | refine M.stAll_i (by assumption) rfl ?_))
              refine M.call_i (not_ret (hI c hcm x (List.mem_of_getElem? hx)) w6) ?_; rintro _ w7 ⟨rfl, k7⟩
              have k67 := k6.trans k7 (fun _ _ h => h)
              have hI7 : Blk w7 w1.heap.size [.slice B set.length cb] ∧ LV vi w7 (fun _ => True) (.slice B set.length cb) set := ⟨hI5.1.keep k67 (fun h => h), hI5.2.keep k67 (fun _ _ _ h => h)⟩
              refine inC hslen hsort _ _ _ hI7 (fun w8 hI8 k8 => ?_)
              refine M.not_i ?_
              have e2 := leftC_snoc set (c.take j) x
              rw [← take_snoc hx] at e2
              have k68 := k67.trans k8 (fun _ _ h => h)
              have gl8 := (gl.keep k7 (fun _ _ _ h => h)).keep k8 (fun _ _ _ h => h)
              cases hbx : inB set (notOf x) with
              | true =>
                rw [hbx] at e2
                simp only [if_true, List.append_nil] at e2
                (repeat (first | refine M.len_i ?_ | refine M.nilCheck_i ?_ | refine M.field_i ?_ | refine M.draw_i ?_ | refine M.cap_i ?_ | refine M.gd_tt ?_ | refine M.gd_ff ?_ | refine M.gd_ft ?_ | refine M.gd_tf ?_ | refine M.gd_u ?_ | refine M.pick_t ?_ | refine M.pick_f ?_ | refine M.not_t ?_ | refine M.not_f ?_ | refine M.cond_t ?_ | refine M.cond_f ?_ | refine M.eqNilP_tn ?_ | refine M.eqNilP_ts ?_ | refine M.eqNilP_fn ?_ | refine M.eqNilP_fs ?_ | refine M.eqNilS_tn ?_ | refine M.eqNilS_ts ?_ | refine M.eqNilS_fn ?_ | refine M.eqNilS_fs ?_ | refine M.lss_t (by omega) ?_ | refine M.lss_f (by omega) ?_ | refine M.leq_t (by omega) ?_ | refine M.leq_f (by omega) ?_ | refine M.gtr_t (by omega) ?_ | refine M.gtr_f (by omega) ?_ | refine M.geq_t (by omega) ?_ | refine M.geq_f (by omega) ?_ | refine M.eql_t (by omega) ?_ | refine M.eql_f (by omega) ?_ | refine M.neq_t (by omega) ?_ | refine M.neq_f (by omega) ?_ | refine M.add_i (by omega) (by omega) ?_ | refine M.sub_i (by omega) (by omega) ?_ | refine M.load_i (by assumption) ?_ | refine M.loadB_i (by assumption) rfl ?_ | refine M.st_i (by assumption) ?_ | refine M.stB_i (by assumption) rfl ?_ | refine M.gs_ff ?_ | refine M.gs_tt ?_ | refine M.gs_ft ?_ | refine M.gs_tf ?_ | refine M.stAll_i (by assumption) rfl ?_))
                exact hK4 _ _ ⟨lv, rfl, e2 ▸ gl8, k68⟩
              | false =>
                rw [hbx] at e2
                simp only [Bool.false_eq_true, if_false] at e2
                (repeat (first | refine M.len_i ?_ | refine M.nilCheck_i ?_ | refine M.field_i ?_ | refine M.draw_i ?_ | refine M.cap_i ?_ | refine M.gd_tt ?_ | refine M.gd_ff ?_ | refine M.gd_ft ?_ | refine M.gd_tf ?_ | refine M.gd_u ?_ | refine M.pick_t ?_ | refine M.pick_f ?_ | refine M.not_t ?_ | refine M.not_f ?_ | refine M.cond_t ?_ | refine M.cond_f ?_ | refine M.eqNilP_tn ?_ | refine M.eqNilP_ts ?_ | refine M.eqNilP_fn ?_ | refine M.eqNilP_fs ?_ | refine M.eqNilS_tn ?_ | refine M.eqNilS_ts ?_ | refine M.eqNilS_fn ?_ | refine M.eqNilS_fs ?_ | refine M.lss_t (by omega) ?_ | refine M.lss_f (by omega) ?_ | refine M.leq_t (by omega) ?_ | refine M.leq_f (by omega) ?_ | refine M.gtr_t (by omega) ?_ | refine M.gtr_f (by omega) ?_ | refine M.geq_t (by omega) ?_ | refine M.geq_f (by omega) ?_ | refine M.eql_t (by omega) ?_ | refine M.eql_f (by omega) ?_ | refine M.neq_t (by omega) ?_ | refine M.neq_f (by omega) ?_ | refine M.add_i (by omega) (by omega) ?_ | refine M.sub_i (by omega) (by omega) ?_ | refine M.load_i (by assumption) ?_ | refine M.loadB_i (by assumption) rfl ?_ | refine M.st_i (by assumption) ?_ | refine M.stB_i (by assumption) rfl ?_ | refine M.gs_ff ?_ | refine M.gs_tt ?_ | refine M.gs_ft ?_ | refine M.gs_tf ?_ | refine M.stAll_i (by assumption) rfl ?_))
                refine M.buildSlice_i [vi x] (by kernel_rfl) (fun w9 b9 k9 s9 => ?_)
                refine M.append1_i (gl8.keep k9 (fun _ _ _ h => h)) (Row.of_blk' (D := fun _ => True) b9 trivial) rfl (by omega) (fun v10 w10 g10 k10 => ?_)
                have q9 := k9.size; have q8 := k8.size; have q7 := k7.size
                refine hK4 _ _ ⟨v10, rfl, ?_, (k68.trans k9 (fun _ _ h => h)).trans k10 (fun b hb h => by omega)⟩
                rw [e2]
                exact g10.mono (fun b hb h => by omega)
          · (repeat (first | refine M.len_i ?_ | refine M.nilCheck_i ?_ | refine M.field_i ?_ | refine M.draw_i ?_ | refine M.cap_i ?_ | refine M.gd_tt ?_ | refine M.gd_ff ?_ | refine M.gd_ft ?_ | refine M.gd_tf ?_ | refine M.gd_u ?_ | refine M.pick_t ?_ | refine M.pick_f ?_ | refine M.not_t ?_ | refine M.not_f ?_ | refine M.cond_t ?_ | refine M.cond_f ?_ | refine M.eqNilP_tn ?_ | refine M.eqNilP_ts ?_ | refine M.eqNilP_fn ?_ | refine M.eqNilP_fs ?_ | refine M.eqNilS_tn ?_ | refine M.eqNilS_ts ?_ | refine M.eqNilS_fn ?_ | refine M.eqNilS_fs ?_ | refine M.lss_t (by omega) ?_ | refine M.lss_f (by omega) ?_ | refine M.leq_t (by omega) ?_ | refine M.leq_f (by omega) ?_ | refine M.gtr_t (by omega) ?_ | refine M.gtr_f (by omega) ?_ | refine M.geq_t (by omega) ?_ | refine M.geq_f (by omega) ?_ | refine M.eql_t (by omega) ?_ | refine M.eql_f (by omega) ?_ | refine M.neq_t (by omega) ?_ | refine M.neq_f (by omega) ?_ | refine M.add_i (by omega) (by omega) ?_ | refine M.sub_i (by omega) (by omega) ?_ | refine M.load_i (by assumption) ?_ | refine M.loadB_i (by assumption) rfl ?_ | refine M.st_i (by assumption) ?_ | refine M.stB_i (by assumption) rfl ?_ | refine M.gs_ff ?_ | refine M.gs_tt ?_ | refine M.gs_ft ?_ | refine M.gs_tf ?_ | refine M.stAll_i (by assumption) rfl ?_))
            have : j = c.length := by omega
            subst this
            rw [List.take_length] at gl
            have ho6 := ho5.keep k6
            have q5 := k5.size
            refine M.appendOL_i ho6 (GI.ofL gl _ (fun b hb h h2 => by have := (ho5.lt h2).2; omega)) (by omega) ?_ (fun v7 us7 w7 h7 k7 => ?_)
            · have : (unitsL set (l.take i)).length ≤ (l.take i).length := by
                unfold unitsL
                rw [List.length_map]; exact List.length_filter_le _ _
              rw [List.length_take] at this
              omega
            · refine hK2 _ _ ⟨v7, us7, rfl, e1 ▸ h7, ((k4.trans k5 (fun _ _ h => h)).trans k6 (fun _ _ h => h)).trans k7 (fun b hb h => by omega)⟩
    · (repeat (first | refine M.len_i ?_ | refine M.nilCheck_i ?_ | refine M.field_i ?_ | refine M.draw_i ?_ | refine M.cap_i ?_ | refine M.gd_tt ?_ | refine M.gd_ff ?_ | refine M.gd_ft ?_ | refine M.gd_tf ?_ | refine M.gd_u ?_ | refine M.pick_t ?_ | refine M.pick_f ?_ | refine M.not_t ?_ | refine M.not_f ?_ | refine M.cond_t ?_ | refine M.cond_f ?_ | refine M.eqNilP_tn ?_ | refine M.eqNilP_ts ?_ | refine M.eqNilP_fn ?_ | refine M.eqNilP_fs ?_ | refine M.eqNilS_tn ?_ | refine M.eqNilS_ts ?_ | refine M.eqNilS_fn ?_ | refine M.eqNilS_fs ?_ | refine M.lss_t (by omega) ?_ | refine M.lss_f (by omega) ?_ | refine M.leq_t (by omega) ?_ | refine M.leq_f (by omega) ?_ | refine M.gtr_t (by omega) ?_ | refine M.gtr_f (by omega) ?_ | refine M.geq_t (by omega) ?_ | refine M.geq_f (by omega) ?_ | refine M.eql_t (by omega) ?_ | refine M.eql_f (by omega) ?_ | refine M.neq_t (by omega) ?_ | refine M.neq_f (by omega) ?_ | refine M.add_i (by omega) (by omega) ?_ | refine M.sub_i (by omega) (by omega) ?_ | refine M.load_i (by assumption) ?_ | refine M.loadB_i (by assumption) rfl ?_ | refine M.st_i (by assumption) ?_ | refine M.stB_i (by assumption) rfl ?_ | refine M.gs_ff ?_ | refine M.gs_tt ?_ | refine M.gs_ft ?_ | refine M.gs_tf ?_ | refine M.stAll_i (by assumption) rfl ?_))
      have : i = l.length := by omega
      subst this
      rw [List.take_length] at ho
      have kd := Keep.drew w4 No
      exact ⟨vo, _, set, true, rfl, hR, (ho.keep kd).ll, hset4.keep kd (fun _ _ _ h => h), (k03.trans k4 (fun _ _ h => h)).trans kd (fun _ _ h => h)⟩
end Go.Proofs.Ytfkbacoiocniaaa
