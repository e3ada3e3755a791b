import Derived.Test.YtfkbacoiocniaaaSimp43
namespace Go.Proofs.Ytfkbacoiocniaaa
open Go.Mw Go.Shelf
set_option linter.unusedVariables false
set_option linter.unusedSimpArgs false
set_option maxRecDepth 100000
attribute [local irreducible] M.val M.unit M.next M.pick M.new M.nilCheck M.load1 M.loadA M.store M.fieldAddr M.indexSl M.indexArr M.slice M.makeSlice M.buildSlice M.len M.lenS M.cap M.append M.extract M.conv M.not M.neg M.bin M.shift M.eqB M.eqNil M.call M.callv M.gd M.share M.cond M.loop M.draw pureW readW Ret
/-! breakwater/breakwaterref43.Units: function 30 -/
def sh30 (x0 : Value) (R : Kt) (w : World) : Prop :=
  M.call Try.prog 67 #[x0, (Value.slice none 0 0)] (fun t15 w =>
  M.extract 0 t15 (fun t16 w =>
  M.extract 1 t15 (fun t17 w =>
  M.not t17 (fun t19 w =>
  M.cond t19
  (R (.tuple #[(Value.slice none 0 0), (Value.slice none 0 0), (Value.bool false)]) w)
  (M.loop [(Value.slice none 0 0), (Value.int IntKind.i64 0)] (fun s1 K1 w => ∀ _ : List Value,
  M.len x0 (fun t22 w =>
  M.bin .lss (s1.getD 1 undef) t22 (fun t23 w =>
  M.cond t23
  (M.share (fun K2 w =>
  M.loop [(Value.bool false), (Value.slice none 0 0), (Value.int IntKind.i64 0)] (fun s3 K3 w => ∀ _ : List Value,
  M.indexSl 1 x0 (s1.getD 1 undef) (fun t29 w =>
  M.load1 t29 (fun t30 w =>
  M.len t30 (fun t31 w =>
  M.bin .lss (s3.getD 2 undef) t31 (fun t32 w =>
  M.cond t32
  (M.share (fun K4 w =>
  M.indexSl 1 x0 (s1.getD 1 undef) (fun t37 w =>
  M.load1 t37 (fun t38 w =>
  M.indexSl 1 t38 (s3.getD 2 undef) (fun t40 w =>
  M.load1 t40 (fun t41 w =>
  M.gd (s3.getD 0 undef) false (fun k w => k t16 w) (fun t44 w =>
  M.gd (s3.getD 0 undef) false (fun k w => k t41 w) (fun t45 w =>
  M.gd (s3.getD 0 undef) false (fun k w => M.call Try.prog 20 #[t44, t45] k w) (fun t46 w =>
  M.pick (s3.getD 0 undef) (Value.bool true) t46 (fun t47 w =>
  M.call Try.prog 51 #[t41] (fun t50 w =>
  M.call Try.prog 20 #[t16, t50] (fun t51 w =>
  M.not t51 (fun t52 w =>
  M.cond t52
  (M.buildSlice 3 1 #[.int .i64 0] 1 [(0, t41)] (fun t55 w =>
  M.append 3 1 8 #[.int .i64 0] (s3.getD 1 undef) t55 (fun t56 w =>
  K4 [t47, t56] w) w) w)
  (K4 [t47, (s3.getD 1 undef)] w)) w) w) w) w) w) w) w) w) w) w) w) (fun s4 w => ∀ _ : List Value,
  M.bin .add (s3.getD 2 undef) (Value.int IntKind.i64 1) (fun t34 w =>
  K3 [(s4.getD 0 undef), (s4.getD 1 undef), t34] w) w) w)
  (M.not (s3.getD 0 undef) (fun t58 w =>
  M.cond t58
  (M.buildSlice 22 1 #[.slice none 0 0] 1 [(0, (s3.getD 1 undef))] (fun t61 w =>
  M.append 22 1 24 #[.slice none 0 0] (s1.getD 0 undef) t61 (fun t62 w =>
  K2 [t62] w) w) w)
  (K2 [(s1.getD 0 undef)] w)) w)) w) w) w) w) w) (fun s2 w => ∀ _ : List Value,
  M.bin .add (s1.getD 1 undef) (Value.int IntKind.i64 1) (fun t25 w =>
  K1 [(s2.getD 0 undef), t25] w) w) w)
  (R (.tuple #[(s1.getD 0 undef), t16, (Value.bool true)]) w)) w) w) w)) w) w) w) w
theorem ok30 (x0 : Value) (R : Kt) (w : World) (h : sh30 x0 R w) : Ret Try.prog 30 #[x0] w R :=
  ret_mk <| calls_of_comp mixed (c := Try.f30.body.getD .skip) (args := [x0]) (rs := [(ResultVar.tmp 2), (ResultVar.tmp 3), (ResultVar.tmp 4)]) (Ann.seq Ann.text (Ann.seq Ann.text (Ann.seq (Ann.seq Ann.text (Ann.cond (Ann.seq Ann.text Ann.leaf) Ann.leaf)) (Ann.seq Ann.text (Ann.seq (Ann.seq Ann.text (Ann.block (Ann.loop [7, 8] [9, 10, 11, 12, 20, 21, 22, 23, 24, 25, 26, 27, 28, 29, 30, 31, 32, 33, 34, 35, 36, 37, 38, 39, 40, 41, 42, 43, 44, 45, 46, 47, 48, 49, 50, 51, 52, 53, 54, 55, 56, 57, 58, 59, 60, 61, 62] (Ann.seq (Ann.seq Ann.text (Ann.cond Ann.leaf Ann.leaf)) (Ann.seq (Ann.jblock [7] [9, 10, 11, 12, 26, 27, 28, 29, 30, 31, 32, 33, 34, 35, 36, 37, 38, 39, 40, 41, 42, 43, 44, 45, 46, 47, 48, 49, 50, 51, 52, 53, 54, 55, 56, 57, 58, 59, 60, 61, 62] (Ann.seq Ann.text (Ann.seq Ann.text (Ann.seq (Ann.seq Ann.text (Ann.block (Ann.loop [9, 10, 11] [12, 26, 27, 28, 29, 30, 31, 32, 33, 34, 35, 36, 37, 38, 39, 40, 41, 42, 43, 44, 45, 46, 47, 48, 49, 50, 51, 52, 53, 54, 55, 56] (Ann.seq (Ann.seq Ann.text (Ann.cond Ann.leaf Ann.leaf)) (Ann.seq (Ann.jblock [9, 10] [12, 35, 36, 37, 38, 39, 40, 41, 42, 43, 44, 45, 46, 47, 48, 49, 50, 51, 52, 53, 54, 55, 56] (Ann.seq Ann.text (Ann.seq Ann.text (Ann.seq Ann.text (Ann.cond Ann.text Ann.leaf))))) Ann.text))))) (Ann.seq Ann.text (Ann.cond Ann.text Ann.leaf)))))) Ann.text))))) (Ann.seq Ann.text Ann.leaf))))))
    Try.func30 (by kernel_rfl) (by kernel_rfl)
    (Eq.mp (by kernel_rfl) h)
/-! breakwater/breakwaterref03.All: function 31 -/
def sh31 (x0 x1 : Value) (R : Kt) (w : World) : Prop :=
  M.len x0 (fun t7 w =>
  M.len x1 (fun t9 w =>
  M.bin .neq t7 t9 (fun t10 w =>
  M.cond t10
  (R (Value.bool false) w)
  (M.loop [(Value.int IntKind.i64 0)] (fun s1 K1 w => ∀ _ : List Value,
  M.len x0 (fun t13 w =>
  M.bin .lss (s1.getD 0 undef) t13 (fun t14 w =>
  M.cond t14
  (M.draw (fun w =>
  M.indexSl 1 x0 (s1.getD 0 undef) (fun t19 w =>
  M.load1 t19 (fun t20 w =>
  M.indexSl 1 x1 (s1.getD 0 undef) (fun t23 w =>
  M.load1 t23 (fun t24 w =>
  M.call Try.prog 16 #[t20, t24] (fun t25 w =>
  M.not t25 (fun t26 w =>
  M.cond t26
  (R (Value.bool false) w)
  (M.bin .add (s1.getD 0 undef) (Value.int IntKind.i64 1) (fun t16 w =>
  K1 [t16] w) w)) w) w) w) w) w) w) w)
  (R (Value.bool true) w)) w) w) w)) w) w) w
theorem ok31 (x0 x1 : Value) (R : Kt) (w : World) (h : sh31 x0 x1 R w) : Ret Try.prog 31 #[x0, x1] w R :=
  ret_mk <| calls_of_comp mixed (c := Try.f31.body.getD .skip) (args := [x0, x1]) (rs := [(ResultVar.tmp 4)]) (Ann.seq Ann.text (Ann.seq (Ann.seq Ann.text (Ann.cond (Ann.seq Ann.text Ann.leaf) Ann.leaf)) (Ann.seq (Ann.seq Ann.text (Ann.block (Ann.loop [5] [4, 11, 12, 13, 14, 15, 16, 17, 18, 19, 20, 21, 22, 23, 24, 25, 26] (Ann.seq (Ann.seq Ann.text (Ann.cond Ann.leaf Ann.leaf)) (Ann.seq (Ann.block (Ann.seq (Ann.draw (Sch.take 0 (Sch.take 1 (Sch.take 2 (Sch.take 3 (Sch.take 4 (Sch.take 5 (Sch.take 6 (Sch.take 7 (Sch.one 8 (Sch.take 9 Sch.done))))))))))) (Ann.cond (Ann.seq Ann.text Ann.leaf) Ann.leaf))) Ann.text))))) (Ann.seq Ann.text Ann.leaf))))
    Try.func31 (by kernel_rfl) (by kernel_rfl)
    (Eq.mp (by kernel_rfl) h)
/-! breakwater/simp.Drop$1: function 70 -/
def sh70 (x0 x1 : Value) (R : Kt) (w : World) : Prop :=
  M.load1 x1 (fun t4 w =>
  M.call Try.prog 19 #[t4, x0] (fun t6 w =>
  R t6 w) w) w
theorem ok70 (x0 x1 : Value) (R : Kt) (w : World) (h : sh70 x0 x1 R w) : Ret Try.prog 70 #[x0, x1] w R :=
  ret_mk <| calls_of_comp mixed (c := Try.f70.body.getD .skip) (args := [x0, x1]) (rs := [(ResultVar.tmp 3)]) (Ann.seq Ann.text (Ann.seq Ann.text Ann.leaf))
    Try.func70 (by kernel_rfl) (by kernel_rfl)
    (Eq.mp (by kernel_rfl) h)
/-! breakwater/simp.Drop: function 36 -/
def sh36 (x0 x1 : Value) (R : Kt) (w : World) : Prop :=
  M.new 22 (Value.cells x1) (fun t3 w =>
  M.len x0 (fun t9 w =>
  M.loop [(Value.slice none 0 0), (Value.int IntKind.i64 0)] (fun s1 K1 w => ∀ _ : List Value,
  M.bin .lss (s1.getD 1 undef) t9 (fun t11 w =>
  M.cond t11
  (M.share (fun K2 w =>
  M.indexSl 1 x0 (s1.getD 1 undef) (fun t12 w =>
  M.load1 t12 (fun t13 w =>
  M.call Try.prog 53 #[t13, (.func (Fn.func 70) #[] #[t3])] (fun t16 w =>
  M.not t16 (fun t17 w =>
  M.cond t17
  (M.buildSlice 22 1 #[.slice none 0 0] 1 [(0, t13)] (fun t20 w =>
  M.append 22 1 24 #[.slice none 0 0] (s1.getD 0 undef) t20 (fun t21 w =>
  K2 [t21] w) w) w)
  (K2 [(s1.getD 0 undef)] w)) w) w) w) w) (fun s2 w => ∀ _ : List Value,
  M.bin .add (s1.getD 1 undef) (Value.int IntKind.i64 1) (fun t22 w =>
  K1 [(s2.getD 0 undef), t22] w) w) w)
  (R (s1.getD 0 undef) w)) w) w) w) w
theorem ok36 (x0 x1 : Value) (R : Kt) (w : World) (h : sh36 x0 x1 R w) : Ret Try.prog 36 #[x0, x1] w R :=
  ret_mk <| calls_of_comp mixed (c := Try.f36.body.getD .skip) (args := [x0, x1]) (rs := [(ResultVar.tmp 4)]) (Ann.seq Ann.text (Ann.seq Ann.text (Ann.seq (Ann.seq Ann.text (Ann.block (Ann.loop [5, 10] [7, 11, 12, 13, 14, 15, 16, 17, 18, 19, 20, 21, 22] (Ann.seq Ann.text (Ann.seq (Ann.cond Ann.leaf Ann.leaf) (Ann.seq (Ann.jblock [5] [7, 12, 13, 14, 15, 16, 17, 18, 19, 20, 21] (Ann.seq Ann.text (Ann.seq Ann.text (Ann.cond Ann.text Ann.leaf)))) Ann.text)))))) (Ann.seq Ann.text Ann.leaf))))
    Try.func36 (by kernel_rfl) (by kernel_rfl)
    (Eq.mp (by kernel_rfl) h)
/-! breakwater/breakwaterref43.Drop: function 37 -/
def sh37 (x0 x1 : Value) (R : Kt) (w : World) : Prop :=
  M.loop [(Value.slice none 0 0), (Value.int IntKind.i64 0)] (fun s1 K1 w => ∀ _ : List Value,
  M.len x0 (fun t11 w =>
  M.bin .lss (s1.getD 1 undef) t11 (fun t12 w =>
  M.cond t12
  (M.share (fun K2 w =>
  M.loop [(Value.bool false), (Value.int IntKind.i64 0)] (fun s3 K3 w => ∀ _ : List Value,
  M.indexSl 1 x0 (s1.getD 1 undef) (fun t18 w =>
  M.load1 t18 (fun t19 w =>
  M.len t19 (fun t20 w =>
  M.bin .lss (s3.getD 1 undef) t20 (fun t21 w =>
  M.cond t21
  (M.gd (s3.getD 0 undef) false (fun k w => k x1 w) (fun t26 w =>
  M.gd (s3.getD 0 undef) false (fun k w => k x0 w) (fun t27 w =>
  M.gd (s3.getD 0 undef) false (fun k w => k (s1.getD 1 undef) w) (fun t28 w =>
  M.gd (s3.getD 0 undef) false (fun k w => M.indexSl 1 t27 t28 k w) (fun t29 w =>
  M.gd (s3.getD 0 undef) false (fun k w => M.load1 t29 k w) (fun t30 w =>
  M.gd (s3.getD 0 undef) false (fun k w => k (s3.getD 1 undef) w) (fun t31 w =>
  M.gd (s3.getD 0 undef) false (fun k w => M.indexSl 1 t30 t31 k w) (fun t32 w =>
  M.gd (s3.getD 0 undef) false (fun k w => M.load1 t32 k w) (fun t33 w =>
  M.gd (s3.getD 0 undef) false (fun k w => M.call Try.prog 20 #[t26, t33] k w) (fun t34 w =>
  M.pick (s3.getD 0 undef) (Value.bool true) t34 (fun t35 w =>
  M.bin .add (s3.getD 1 undef) (Value.int IntKind.i64 1) (fun t23 w =>
  K3 [t35, t23] w) w) w) w) w) w) w) w) w) w) w) w)
  (M.not (s3.getD 0 undef) (fun t37 w =>
  M.cond t37
  (M.indexSl 1 x0 (s1.getD 1 undef) (fun t41 w =>
  M.load1 t41 (fun t42 w =>
  M.buildSlice 22 1 #[.slice none 0 0] 1 [(0, t42)] (fun t43 w =>
  M.append 22 1 24 #[.slice none 0 0] (s1.getD 0 undef) t43 (fun t44 w =>
  K2 [t44] w) w) w) w) w)
  (K2 [(s1.getD 0 undef)] w)) w)) w) w) w) w) w) (fun s2 w => ∀ _ : List Value,
  M.bin .add (s1.getD 1 undef) (Value.int IntKind.i64 1) (fun t14 w =>
  K1 [(s2.getD 0 undef), t14] w) w) w)
  (R (s1.getD 0 undef) w)) w) w) w
theorem ok37 (x0 x1 : Value) (R : Kt) (w : World) (h : sh37 x0 x1 R w) : Ret Try.prog 37 #[x0, x1] w R :=
  ret_mk <| calls_of_comp mixed (c := Try.f37.body.getD .skip) (args := [x0, x1]) (rs := [(ResultVar.tmp 4)]) (Ann.seq Ann.text (Ann.seq Ann.text (Ann.seq (Ann.seq Ann.text (Ann.block (Ann.loop [5, 6] [7, 8, 9, 10, 11, 12, 13, 14, 15, 16, 17, 18, 19, 20, 21, 22, 23, 24, 25, 26, 27, 28, 29, 30, 31, 32, 33, 34, 35, 36, 37, 38, 39, 40, 41, 42, 43, 44] (Ann.seq (Ann.seq Ann.text (Ann.cond Ann.leaf Ann.leaf)) (Ann.seq (Ann.jblock [5] [7, 8, 15, 16, 17, 18, 19, 20, 21, 22, 23, 24, 25, 26, 27, 28, 29, 30, 31, 32, 33, 34, 35, 36, 37, 38, 39, 40, 41, 42, 43, 44] (Ann.seq Ann.text (Ann.seq (Ann.seq Ann.text (Ann.block (Ann.loop [7, 8] [15, 16, 17, 18, 19, 20, 21, 22, 23, 24, 25, 26, 27, 28, 29, 30, 31, 32, 33, 34, 35] (Ann.seq (Ann.seq Ann.text (Ann.cond Ann.leaf Ann.leaf)) (Ann.seq (Ann.block Ann.text) Ann.text))))) (Ann.seq Ann.text (Ann.cond Ann.text Ann.leaf))))) Ann.text))))) (Ann.seq Ann.text Ann.leaf))))
    Try.func37 (by kernel_rfl) (by kernel_rfl)
    (Eq.mp (by kernel_rfl) h)

theorem any_take {c : List Int} {j : Nat} {x : Int} {p : Int → Bool} (h : c[j]? = some x) : (c.take (j + 1)).any p = ((c.take j).any p || p x) := by
  rw [take_snoc h]; simp
theorem unitsL_len (set : List Int) (l : List (List Int)) : (unitsL set l).length ≤ l.length := by
  unfold unitsL
  rw [List.length_map]; exact List.length_filter_le _ _
set_option maxHeartbeats 2000000 in
theorem runits_ret {w : World} {D : Nat → Prop} {u : Value} {l : List (List Int)} (hl : LL w D u l) (hf : FewL l []) (hfl : l.length ≤ 1000000) (hI : ∀ c ∈ l, ∀ x ∈ c, I64 x) :
    Ret Try.prog 30 #[u] w (fun r w' => ∃ a b set k, r = .tuple #[a, b, .bool k] ∧ CloseR l [] set k ∧ LL w' (fun _ => True) a (if k then unitsL set l else []) ∧ LV vi w' (fun _ => True) b set ∧ Keep w w' No) := by
  obtain ⟨A, cp, us, rfl, hlr, hcp⟩ := id hl
  refine ok30 _ _ _ ?_
  unfold sh30
  refine M.call_i (rclose_ret hl (LV.nil vi w No) hf (by omega) hI (by simp)) ?_; rintro _ w1 ⟨o, set, k, rfl, hR, g1, k1⟩
  refine M.extract_i rfl ?_
  refine M.extract_i rfl ?_
  have hslen := hR.len hf
  have hset := GI.ofL g1 (fun _ => True) (fun _ _ _ => trivial)
  refine M.not_i ?_
  cases k with
  | false =>
    (repeat (first | refine M.len_i ?_ | refine M.nilCheck_i ?_ | refine M.field_i ?_ | refine M.draw_i ?_ | refine M.cap_i ?_ | refine M.gd_tt ?_ | refine M.gd_ff ?_ | refine M.gd_ft ?_ | refine M.gd_tf ?_ | refine M.gd_u ?_ | refine M.pick_t ?_ | refine M.pick_f ?_ | refine M.not_t ?_ | refine M.not_f ?_ | refine M.cond_t ?_ | refine M.cond_f ?_ | refine M.eqNilP_tn ?_ | refine M.eqNilP_ts ?_ | refine M.eqNilP_fn ?_ | refine M.eqNilP_fs ?_ | refine M.eqNilS_tn ?_ | refine M.eqNilS_ts ?_ | refine M.eqNilS_fn ?_ | refine M.eqNilS_fs ?_ | refine M.lss_t (by omega) ?_ | refine M.lss_f (by omega) ?_ | refine M.leq_t (by omega) ?_ | refine M.leq_f (by omega) ?_ | refine M.gtr_t (by omega) ?_ | refine M.gtr_f (by omega) ?_ | refine M.geq_t (by omega) ?_ | refine M.geq_f (by omega) ?_ | refine M.eql_t (by omega) ?_ | refine M.eql_f (by omega) ?_ | refine M.neq_t (by omega) ?_ | refine M.neq_f (by omega) ?_ | refine M.add_i (by omega) (by omega) ?_ | refine M.sub_i (by omega) (by omega) ?_ | refine M.load_i (by assumption) ?_ | refine M.loadB_i (by assumption) rfl ?_ | refine M.st_i (by assumption) ?_ | refine M.stB_i (by assumption) rfl ?_ | refine M.gs_ff ?_ | refine M.gs_tt ?_ | refine M.gs_ft ?_ | refine M.gs_tf ?_ | refine M.stAll_i (by assumption) rfl ?_))
    obtain ⟨_, rfl, hbot⟩ | ⟨h, _⟩ := hR
    · exact ⟨_, _, [], false, rfl, .inl ⟨rfl, rfl, hbot⟩, (LL.nil w1).mono (fun _ _ _ => trivial), (LV.nil vi w1 No).mono (fun _ _ _ => trivial), k1⟩
    · simp at h
  | true =>
    have hl1 := hlr.keep k1 (fun _ _ _ h => h)
    (repeat (first | refine M.len_i ?_ | refine M.nilCheck_i ?_ | refine M.field_i ?_ | refine M.draw_i ?_ | refine M.cap_i ?_ | refine M.gd_tt ?_ | refine M.gd_ff ?_ | refine M.gd_ft ?_ | refine M.gd_tf ?_ | refine M.gd_u ?_ | refine M.pick_t ?_ | refine M.pick_f ?_ | refine M.not_t ?_ | refine M.not_f ?_ | refine M.cond_t ?_ | refine M.cond_f ?_ | refine M.eqNilP_tn ?_ | refine M.eqNilP_ts ?_ | refine M.eqNilP_fn ?_ | refine M.eqNilP_fs ?_ | refine M.eqNilS_tn ?_ | refine M.eqNilS_ts ?_ | refine M.eqNilS_fn ?_ | refine M.eqNilS_fs ?_ | refine M.lss_t (by omega) ?_ | refine M.lss_f (by omega) ?_ | refine M.leq_t (by omega) ?_ | refine M.leq_f (by omega) ?_ | refine M.gtr_t (by omega) ?_ | refine M.gtr_f (by omega) ?_ | refine M.geq_t (by omega) ?_ | refine M.geq_f (by omega) ?_ | refine M.eql_t (by omega) ?_ | refine M.eql_f (by omega) ?_ | refine M.neq_t (by omega) ?_ | refine M.neq_f (by omega) ?_ | refine M.add_i (by omega) (by omega) ?_ | refine M.sub_i (by omega) (by omega) ?_ | refine M.load_i (by assumption) ?_ | refine M.loadB_i (by assumption) rfl ?_ | refine M.st_i (by assumption) ?_ | refine M.stB_i (by assumption) rfl ?_ | refine M.gs_ff ?_ | refine M.gs_tt ?_ | refine M.gs_ft ?_ | refine M.gs_tf ?_ | refine M.stAll_i (by assumption) rfl ?_))
    refine M.loop_i (σ := Nat) (fun i vals w' => ∃ vo us', vals = [vo, vi i] ∧ i ≤ l.length ∧ OL w1 w' vo us' (unitsL set (l.take i)) ∧ Keep w1 w' No) (fun i => l.length - i) 0
      ⟨_, [], rfl, by omega, OL.nil _ _, Keep.refl _ _⟩ ?_
    rintro i vals w4 K ⟨vo, us', rfl, hi, ho, k4⟩ hK _
    simp only [List.getD_cons_zero, List.getD_cons_succ]
    have hl4 := hl1.keep k4 (fun _ _ _ h => h)
    have hset4 := hset.keep k4 (fun _ _ _ h => h)
    have q4 := k4.size
    by_cases hlt : i < l.length
    · obtain ⟨c, hc⟩ : ∃ c, l[i]? = some c := ⟨_, List.getElem?_eq_getElem hlt⟩
      have hcm := List.mem_of_getElem? hc
      have hcl := LLr.fewC hf c hcm
      have e1 := unitsL_snoc set (l.take i) c
      rw [← take_snoc hc] at e1
      (repeat (first | refine M.len_i ?_ | refine M.nilCheck_i ?_ | refine M.field_i ?_ | refine M.draw_i ?_ | refine M.cap_i ?_ | refine M.gd_tt ?_ | refine M.gd_ff ?_ | refine M.gd_ft ?_ | refine M.gd_tf ?_ | refine M.gd_u ?_ | refine M.pick_t ?_ | refine M.pick_f ?_ | refine M.not_t ?_ | refine M.not_f ?_ | refine M.cond_t ?_ | refine M.cond_f ?_ | refine M.eqNilP_tn ?_ | refine M.eqNilP_ts ?_ | refine M.eqNilP_fn ?_ | refine M.eqNilP_fs ?_ | refine M.eqNilS_tn ?_ | refine M.eqNilS_ts ?_ | refine M.eqNilS_fn ?_ | refine M.eqNilS_fs ?_ | refine M.lss_t (by omega) ?_ | refine M.lss_f (by omega) ?_ | refine M.leq_t (by omega) ?_ | refine M.leq_f (by omega) ?_ | refine M.gtr_t (by omega) ?_ | refine M.gtr_f (by omega) ?_ | refine M.geq_t (by omega) ?_ | refine M.geq_f (by omega) ?_ | refine M.eql_t (by omega) ?_ | refine M.eql_f (by omega) ?_ | refine M.neq_t (by omega) ?_ | refine M.neq_f (by omega) ?_ | refine M.add_i (by omega) (by omega) ?_ | refine M.sub_i (by omega) (by omega) ?_ | refine M.load_i (by assumption) ?_ | refine M.loadB_i (by assumption) rfl ?_ | refine M.st_i (by assumption) ?_ | refine M.stB_i (by assumption) rfl ?_ | refine M.gs_ff ?_ | refine M.gs_tt ?_ | refine M.gs_ft ?_ | refine M.gs_tf ?_ | refine M.stAll_i (by assumption) rfl ?_))
      refine M.share_j (fun vals w' => ∃ vo us', vals = [vo] ∧ OL w1 w' vo us' (unitsL set (l.take (i + 1))) ∧ Keep w1 w' No) ?_ ?_
      · rintro vals w5 ⟨vo, us', rfl, ho, k5⟩ _
        simp only [List.getD_cons_zero, List.getD_cons_succ]
        (repeat (first | refine M.len_i ?_ | refine M.nilCheck_i ?_ | refine M.field_i ?_ | refine M.draw_i ?_ | refine M.cap_i ?_ | refine M.gd_tt ?_ | refine M.gd_ff ?_ | refine M.gd_ft ?_ | refine M.gd_tf ?_ | refine M.gd_u ?_ | refine M.pick_t ?_ | refine M.pick_f ?_ | refine M.not_t ?_ | refine M.not_f ?_ | refine M.cond_t ?_ | refine M.cond_f ?_ | refine M.eqNilP_tn ?_ | refine M.eqNilP_ts ?_ | refine M.eqNilP_fn ?_ | refine M.eqNilP_fs ?_ | refine M.eqNilS_tn ?_ | refine M.eqNilS_ts ?_ | refine M.eqNilS_fn ?_ | refine M.eqNilS_fs ?_ | refine M.lss_t (by omega) ?_ | refine M.lss_f (by omega) ?_ | refine M.leq_t (by omega) ?_ | refine M.leq_f (by omega) ?_ | refine M.gtr_t (by omega) ?_ | refine M.gtr_f (by omega) ?_ | refine M.geq_t (by omega) ?_ | refine M.geq_f (by omega) ?_ | refine M.eql_t (by omega) ?_ | refine M.eql_f (by omega) ?_ | refine M.neq_t (by omega) ?_ | refine M.neq_f (by omega) ?_ | refine M.add_i (by omega) (by omega) ?_ | refine M.sub_i (by omega) (by omega) ?_ | refine M.load_i (by assumption) ?_ | refine M.loadB_i (by assumption) rfl ?_ | refine M.st_i (by assumption) ?_ | refine M.stB_i (by assumption) rfl ?_ | refine M.gs_ff ?_ | refine M.gs_tt ?_ | refine M.gs_ft ?_ | refine M.gs_tf ?_ | refine M.stAll_i (by assumption) rfl ?_))
        exact hK (i + 1) _ _ (by omega) ⟨vo, us', by simp, by omega, ho, k5⟩
      · intro K2 hK2
        refine M.loop_i (σ := Nat) (fun j vals w' => ∃ lv, vals = [vb ((c.take j).any (inB set)), lv, vi j] ∧ j ≤ c.length ∧ GI w' (w4.heap.size ≤ ·) lv (leftC set (c.take j)) ∧ Keep w4 w' No) (fun j => c.length - j) 0
          ⟨_, rfl, by omega, by simpa [leftC] using GI.nil _ _, Keep.refl _ _⟩ ?_
        rintro j vals w6 K3 ⟨lv, rfl, hj, gl, k6⟩ hK3 _
        simp only [List.getD_cons_zero, List.getD_cons_succ]
        have hl6 := hl4.keep k6 (fun _ _ _ h => h)
        have q6 := k6.size
        refine M.idxLL_i hl6 rfl (by omega) (c := c) (by simpa using hc) (fun bb oo u hcell hu => ?_)
        obtain ⟨A2, c2, rfl, hr2, hc2⟩ := id hu
        (repeat (first | refine M.len_i ?_ | refine M.nilCheck_i ?_ | refine M.field_i ?_ | refine M.draw_i ?_ | refine M.cap_i ?_ | refine M.gd_tt ?_ | refine M.gd_ff ?_ | refine M.gd_ft ?_ | refine M.gd_tf ?_ | refine M.gd_u ?_ | refine M.pick_t ?_ | refine M.pick_f ?_ | refine M.not_t ?_ | refine M.not_f ?_ | refine M.cond_t ?_ | refine M.cond_f ?_ | refine M.eqNilP_tn ?_ | refine M.eqNilP_ts ?_ | refine M.eqNilP_fn ?_ | refine M.eqNilP_fs ?_ | refine M.eqNilS_tn ?_ | refine M.eqNilS_ts ?_ | refine M.eqNilS_fn ?_ | refine M.eqNilS_fs ?_ | refine M.lss_t (by omega) ?_ | refine M.lss_f (by omega) ?_ | refine M.leq_t (by omega) ?_ | refine M.leq_f (by omega) ?_ | refine M.gtr_t (by omega) ?_ | refine M.gtr_f (by omega) ?_ | refine M.geq_t (by omega) ?_ | refine M.geq_f (by omega) ?_ | refine M.eql_t (by omega) ?_ | refine M.eql_f (by omega) ?_ | refine M.neq_t (by omega) ?_ | refine M.neq_f (by omega) ?_ | refine M.add_i (by omega) (by omega) ?_ | refine M.sub_i (by omega) (by omega) ?_ | refine M.load_i (by assumption) ?_ | refine M.loadB_i (by assumption) rfl ?_ | refine M.st_i (by assumption) ?_ | refine M.stB_i (by assumption) rfl ?_ | refine M.gs_ff ?_ | refine M.gs_tt ?_ | refine M.gs_ft ?_ | refine M.gs_tf ?_ | refine M.stAll_i (by assumption) rfl ?_))
        by_cases hjl : j < c.length
        · obtain ⟨x, hx⟩ : ∃ x, c[j]? = some x := ⟨_, List.getElem?_eq_getElem hjl⟩
          have hlen : (leftC set (c.take j)).length ≤ c.length := Nat.le_trans (List.length_filter_le _ _) (by simp; omega)
          (repeat (first | refine M.len_i ?_ | refine M.nilCheck_i ?_ | refine M.field_i ?_ | refine M.draw_i ?_ | refine M.cap_i ?_ | refine M.gd_tt ?_ | refine M.gd_ff ?_ | refine M.gd_ft ?_ | refine M.gd_tf ?_ | refine M.gd_u ?_ | refine M.pick_t ?_ | refine M.pick_f ?_ | refine M.not_t ?_ | refine M.not_f ?_ | refine M.cond_t ?_ | refine M.cond_f ?_ | refine M.eqNilP_tn ?_ | refine M.eqNilP_ts ?_ | refine M.eqNilP_fn ?_ | refine M.eqNilP_fs ?_ | refine M.eqNilS_tn ?_ | refine M.eqNilS_ts ?_ | refine M.eqNilS_fn ?_ | refine M.eqNilS_fs ?_ | refine M.lss_t (by omega) ?_ | refine M.lss_f (by omega) ?_ | refine M.leq_t (by omega) ?_ | refine M.leq_f (by omega) ?_ | refine M.gtr_t (by omega) ?_ | refine M.gtr_f (by omega) ?_ | refine M.geq_t (by omega) ?_ | refine M.geq_f (by omega) ?_ | refine M.eql_t (by omega) ?_ | refine M.eql_f (by omega) ?_ | refine M.neq_t (by omega) ?_ | refine M.neq_f (by omega) ?_ | refine M.add_i (by omega) (by omega) ?_ | refine M.sub_i (by omega) (by omega) ?_ | refine M.load_i (by assumption) ?_ | refine M.loadB_i (by assumption) rfl ?_ | refine M.st_i (by assumption) ?_ | refine M.stB_i (by assumption) rfl ?_ | refine M.gs_ff ?_ | refine M.gs_tt ?_ | refine M.gs_ft ?_ | refine M.gs_tf ?_ | refine M.stAll_i (by assumption) rfl ?_))
          refine M.share_j (fun vals w' => ∃ lv, vals = [vb ((c.take (j + 1)).any (inB set)), lv] ∧ GI w' (w4.heap.size ≤ ·) lv (leftC set (c.take (j + 1))) ∧ Keep w4 w' No) ?_ ?_
          · rintro vals w7 ⟨lv, rfl, gl, k7⟩ _
            simp only [List.getD_cons_zero, List.getD_cons_succ]
            (repeat (first | refine M.len_i ?_ | refine M.nilCheck_i ?_ | refine M.field_i ?_ | refine M.draw_i ?_ | refine M.cap_i ?_ | refine M.gd_tt ?_ | refine M.gd_ff ?_ | refine M.gd_ft ?_ | refine M.gd_tf ?_ | refine M.gd_u ?_ | refine M.pick_t ?_ | refine M.pick_f ?_ | refine M.not_t ?_ | refine M.not_f ?_ | refine M.cond_t ?_ | refine M.cond_f ?_ | refine M.eqNilP_tn ?_ | refine M.eqNilP_ts ?_ | refine M.eqNilP_fn ?_ | refine M.eqNilP_fs ?_ | refine M.eqNilS_tn ?_ | refine M.eqNilS_ts ?_ | refine M.eqNilS_fn ?_ | refine M.eqNilS_fs ?_ | refine M.lss_t (by omega) ?_ | refine M.lss_f (by omega) ?_ | refine M.leq_t (by omega) ?_ | refine M.leq_f (by omega) ?_ | refine M.gtr_t (by omega) ?_ | refine M.gtr_f (by omega) ?_ | refine M.geq_t (by omega) ?_ | refine M.geq_f (by omega) ?_ | refine M.eql_t (by omega) ?_ | refine M.eql_f (by omega) ?_ | refine M.neq_t (by omega) ?_ | refine M.neq_f (by omega) ?_ | refine M.add_i (by omega) (by omega) ?_ | refine M.sub_i (by omega) (by omega) ?_ | refine M.load_i (by assumption) ?_ | refine M.loadB_i (by assumption) rfl ?_ | refine M.st_i (by assumption) ?_ | refine M.stB_i (by assumption) rfl ?_ | refine M.gs_ff ?_ | refine M.gs_tt ?_ | refine M.gs_ft ?_ | refine M.gs_tf ?_ | refine M.stAll_i (by assumption) rfl ?_))
            exact hK3 (j + 1) _ _ (by omega) ⟨lv, by simp, by omega, gl, k7⟩
          · intro K4 hK4
            refine M.idxLL_i hl6 rfl (by omega) (c := c) (by simpa using hc) (fun b9 o9 u9 hcell9 hu9 => ?_)
            obtain ⟨A9, c9, rfl, hr9, hc9⟩ := id hu9
            (repeat (first | refine M.len_i ?_ | refine M.nilCheck_i ?_ | refine M.field_i ?_ | refine M.draw_i ?_ | refine M.cap_i ?_ | refine M.gd_tt ?_ | refine M.gd_ff ?_ | refine M.gd_ft ?_ | refine M.gd_tf ?_ | refine M.gd_u ?_ | refine M.pick_t ?_ | refine M.pick_f ?_ | refine M.not_t ?_ | refine M.not_f ?_ | refine M.cond_t ?_ | refine M.cond_f ?_ | refine M.eqNilP_tn ?_ | refine M.eqNilP_ts ?_ | refine M.eqNilP_fn ?_ | refine M.eqNilP_fs ?_ | refine M.eqNilS_tn ?_ | refine M.eqNilS_ts ?_ | refine M.eqNilS_fn ?_ | refine M.eqNilS_fs ?_ | refine M.lss_t (by omega) ?_ | refine M.lss_f (by omega) ?_ | refine M.leq_t (by omega) ?_ | refine M.leq_f (by omega) ?_ | refine M.gtr_t (by omega) ?_ | refine M.gtr_f (by omega) ?_ | refine M.geq_t (by omega) ?_ | refine M.geq_f (by omega) ?_ | refine M.eql_t (by omega) ?_ | refine M.eql_f (by omega) ?_ | refine M.neq_t (by omega) ?_ | refine M.neq_f (by omega) ?_ | refine M.add_i (by omega) (by omega) ?_ | refine M.sub_i (by omega) (by omega) ?_ | refine M.load_i (by assumption) ?_ | refine M.loadB_i (by assumption) rfl ?_ | refine M.st_i (by assumption) ?_ | refine M.stB_i (by assumption) rfl ?_ | refine M.gs_ff ?_ | refine M.gs_tt ?_ | refine M.gs_ft ?_ | refine M.gs_tf ?_ | refine M.stAll_i (by assumption) rfl ?_))
            refine M.idxLV_i hr9 rfl (by omega) (by omega) (x := x) (by simpa using hx) (fun bb oo hA hcc => ?_)
            (repeat (first | refine M.len_i ?_ | refine M.nilCheck_i ?_ | refine M.field_i ?_ | refine M.draw_i ?_ | refine M.cap_i ?_ | refine M.gd_tt ?_ | refine M.gd_ff ?_ | refine M.gd_ft ?_ | refine M.gd_tf ?_ | refine M.gd_u ?_ | refine M.pick_t ?_ | refine M.pick_f ?_ | refine M.not_t ?_ | refine M.not_f ?_ | refine M.cond_t ?_ | refine M.cond_f ?_ | refine M.eqNilP_tn ?_ | refine M.eqNilP_ts ?_ | refine M.eqNilP_fn ?_ | refine M.eqNilP_fs ?_ | refine M.eqNilS_tn ?_ | refine M.eqNilS_ts ?_ | refine M.eqNilS_fn ?_ | refine M.eqNilS_fs ?_ | refine M.lss_t (by omega) ?_ | refine M.lss_f (by omega) ?_ | refine M.leq_t (by omega) ?_ | refine M.leq_f (by omega) ?_ | refine M.gtr_t (by omega) ?_ | refine M.gtr_f (by omega) ?_ | refine M.geq_t (by omega) ?_ | refine M.geq_f (by omega) ?_ | refine M.eql_t (by omega) ?_ | refine M.eql_f (by omega) ?_ | refine M.neq_t (by omega) ?_ | refine M.neq_f (by omega) ?_ | refine M.add_i (by omega) (by omega) ?_ | refine M.sub_i (by omega) (by omega) ?_ | refine M.load_i (by assumption) ?_ | refine M.loadB_i (by assumption) rfl ?_ | refine M.st_i (by assumption) ?_ | refine M.stB_i (by assumption) rfl ?_ | refine M.gs_ff ?_ | refine M.gs_tt ?_ | refine M.gs_ft ?_ | refine M.gs_tf ?_ | refine M.stAll_i (by assumption) rfl ?_))
            have go : ∀ (w7 : World), Keep w4 w7 No → GI w7 (w4.heap.size ≤ ·) lv (leftC set (c.take j)) → M.call Try.prog 51 #[vi x] (fun t50 w => M.call Try.prog 20 #[o, t50] (fun t51 w => M.not t51 (fun t52 w => M.cond t52
                (M.buildSlice 3 1 #[.int .i64 0] 1 [(0, vi x)] (fun t55 w => M.append 3 1 8 #[.int .i64 0] lv t55 (fun t56 w => K4 [vb ((c.take (j + 1)).any (inB set)), t56] w) w) w) (K4 [vb ((c.take (j + 1)).any (inB set)), lv] w)) w) w) w7 := by
              intro w7 k7 gl7
              refine M.call_i (rnot_ret (hI c hcm x (List.mem_of_getElem? hx)) w7) ?_; rintro _ w8 ⟨rfl, k8⟩
              have k78 := (k4.trans k7 (fun _ _ h => h)).trans k8 (fun _ _ h => h)
              refine M.call_i (has_ret (hset.keep k78 (fun _ _ _ h => h)) (by omega) (notOf x)) ?_; rintro _ w9 ⟨rfl, k9⟩
              have k79 := (k7.trans k8 (fun _ _ h => h)).trans k9 (fun _ _ h => h)
              have gl9 := (gl7.keep k8 (fun _ _ _ h => h)).keep k9 (fun _ _ _ h => h)
              have e2 := leftC_snoc set (c.take j) x
              rw [← take_snoc hx] at e2
              refine M.not_i ?_
              change M.cond (.bool (!inB set (notOf x))) _ _
              cases hbx : inB set (notOf x) with
              | true =>
                rw [hbx] at e2
                simp only [if_true, List.append_nil] at e2
                (repeat (first | refine M.len_i ?_ | refine M.nilCheck_i ?_ | refine M.field_i ?_ | refine M.draw_i ?_ | refine M.cap_i ?_ | refine M.gd_tt ?_ | refine M.gd_ff ?_ | refine M.gd_ft ?_ | refine M.gd_tf ?_ | refine M.gd_u ?_ | refine M.pick_t ?_ | refine M.pick_f ?_ | refine M.not_t ?_ | refine M.not_f ?_ | refine M.cond_t ?_ | refine M.cond_f ?_ | refine M.eqNilP_tn ?_ | refine M.eqNilP_ts ?_ | refine M.eqNilP_fn ?_ | refine M.eqNilP_fs ?_ | refine M.eqNilS_tn ?_ | refine M.eqNilS_ts ?_ | refine M.eqNilS_fn ?_ | refine M.eqNilS_fs ?_ | refine M.lss_t (by omega) ?_ | refine M.lss_f (by omega) ?_ | refine M.leq_t (by omega) ?_ | refine M.leq_f (by omega) ?_ | refine M.gtr_t (by omega) ?_ | refine M.gtr_f (by omega) ?_ | refine M.geq_t (by omega) ?_ | refine M.geq_f (by omega) ?_ | refine M.eql_t (by omega) ?_ | refine M.eql_f (by omega) ?_ | refine M.neq_t (by omega) ?_ | refine M.neq_f (by omega) ?_ | refine M.add_i (by omega) (by omega) ?_ | refine M.sub_i (by omega) (by omega) ?_ | refine M.load_i (by assumption) ?_ | refine M.loadB_i (by assumption) rfl ?_ | refine M.st_i (by assumption) ?_ | refine M.stB_i (by assumption) rfl ?_ | refine M.gs_ff ?_ | refine M.gs_tt ?_ | refine M.gs_ft ?_ | refine M.gs_tf ?_ | refine M.stAll_i (by assumption) rfl ?_))
                exact hK4 _ _ ⟨lv, rfl, e2 ▸ gl9, k79⟩
              | false =>
                rw [hbx] at e2
                simp only [Bool.false_eq_true, if_false] at e2
                (repeat (first | refine M.len_i ?_ | refine M.nilCheck_i ?_ | refine M.field_i ?_ | refine M.draw_i ?_ | refine M.cap_i ?_ | refine M.gd_tt ?_ | refine M.gd_ff ?_ | refine M.gd_ft ?_ | refine M.gd_tf ?_ | refine M.gd_u ?_ | refine M.pick_t ?_ | refine M.pick_f ?_ | refine M.not_t ?_ | refine M.not_f ?_ | refine M.cond_t ?_ | refine M.cond_f ?_ | refine M.eqNilP_tn ?_ | refine M.eqNilP_ts ?_ | refine M.eqNilP_fn ?_ | refine M.eqNilP_fs ?_ | refine M.eqNilS_tn ?_ | refine M.eqNilS_ts ?_ | refine M.eqNilS_fn ?_ | refine M.eqNilS_fs ?_ | refine M.lss_t (by omega) ?_ | refine M.lss_f (by omega) ?_ | refine M.leq_t (by omega) ?_ | refine M.leq_f (by omega) ?_ | refine M.gtr_t (by omega) ?_ | refine M.gtr_f (by omega) ?_ | refine M.geq_t (by omega) ?_ | refine M.geq_f (by omega) ?_ | refine M.eql_t (by omega) ?_ | refine M.eql_f (by omega) ?_ | refine M.neq_t (by omega) ?_ | refine M.neq_f (by omega) ?_ | refine M.add_i (by omega) (by omega) ?_ | refine M.sub_i (by omega) (by omega) ?_ | refine M.load_i (by assumption) ?_ | refine M.loadB_i (by assumption) rfl ?_ | refine M.st_i (by assumption) ?_ | refine M.stB_i (by assumption) rfl ?_ | refine M.gs_ff ?_ | refine M.gs_tt ?_ | refine M.gs_ft ?_ | refine M.gs_tf ?_ | refine M.stAll_i (by assumption) rfl ?_))
                refine M.buildSlice_i [vi x] (by kernel_rfl) (fun w10 b10 k10 s10 => ?_)
                refine M.append1_i (gl9.keep k10 (fun _ _ _ h => h)) (Row.of_blk' (D := fun _ => True) b10 trivial) rfl (by omega) (fun v11 w11 g11 k11 => ?_)
                have q9 := k79.size; have q10 := k10.size
                refine hK4 _ _ ⟨v11, rfl, ?_, (k79.trans k10 (fun _ _ h => h)).trans k11 (fun b hb h => by omega)⟩
                rw [e2]
                exact g11.mono (fun b hb h => by omega)
            have e3 := any_take (p := inB set) hx
            cases hba : (c.take j).any (inB set) with
            | true =>
              rw [hba] at e3
              simp only [Bool.true_or] at e3
              (repeat (first | refine M.len_i ?_ | refine M.nilCheck_i ?_ | refine M.field_i ?_ | refine M.draw_i ?_ | refine M.cap_i ?_ | refine M.gd_tt ?_ | refine M.gd_ff ?_ | refine M.gd_ft ?_ | refine M.gd_tf ?_ | refine M.gd_u ?_ | refine M.pick_t ?_ | refine M.pick_f ?_ | refine M.not_t ?_ | refine M.not_f ?_ | refine M.cond_t ?_ | refine M.cond_f ?_ | refine M.eqNilP_tn ?_ | refine M.eqNilP_ts ?_ | refine M.eqNilP_fn ?_ | refine M.eqNilP_fs ?_ | refine M.eqNilS_tn ?_ | refine M.eqNilS_ts ?_ | refine M.eqNilS_fn ?_ | refine M.eqNilS_fs ?_ | refine M.lss_t (by omega) ?_ | refine M.lss_f (by omega) ?_ | refine M.leq_t (by omega) ?_ | refine M.leq_f (by omega) ?_ | refine M.gtr_t (by omega) ?_ | refine M.gtr_f (by omega) ?_ | refine M.geq_t (by omega) ?_ | refine M.geq_f (by omega) ?_ | refine M.eql_t (by omega) ?_ | refine M.eql_f (by omega) ?_ | refine M.neq_t (by omega) ?_ | refine M.neq_f (by omega) ?_ | refine M.add_i (by omega) (by omega) ?_ | refine M.sub_i (by omega) (by omega) ?_ | refine M.load_i (by assumption) ?_ | refine M.loadB_i (by assumption) rfl ?_ | refine M.st_i (by assumption) ?_ | refine M.stB_i (by assumption) rfl ?_ | refine M.gs_ff ?_ | refine M.gs_tt ?_ | refine M.gs_ft ?_ | refine M.gs_tf ?_ | refine M.stAll_i (by assumption) rfl ?_))
              rw [e3] at go
              exact go w6 k6 gl
            | false =>
              rw [hba] at e3
              simp only [Bool.false_or] at e3
              (repeat (first | refine M.len_i ?_ | refine M.nilCheck_i ?_ | refine M.field_i ?_ | refine M.draw_i ?_ | refine M.cap_i ?_ | refine M.gd_tt ?_ | refine M.gd_ff ?_ | refine M.gd_ft ?_ | refine M.gd_tf ?_ | refine M.gd_u ?_ | refine M.pick_t ?_ | refine M.pick_f ?_ | refine M.not_t ?_ | refine M.not_f ?_ | refine M.cond_t ?_ | refine M.cond_f ?_ | refine M.eqNilP_tn ?_ | refine M.eqNilP_ts ?_ | refine M.eqNilP_fn ?_ | refine M.eqNilP_fs ?_ | refine M.eqNilS_tn ?_ | refine M.eqNilS_ts ?_ | refine M.eqNilS_fn ?_ | refine M.eqNilS_fs ?_ | refine M.lss_t (by omega) ?_ | refine M.lss_f (by omega) ?_ | refine M.leq_t (by omega) ?_ | refine M.leq_f (by omega) ?_ | refine M.gtr_t (by omega) ?_ | refine M.gtr_f (by omega) ?_ | refine M.geq_t (by omega) ?_ | refine M.geq_f (by omega) ?_ | refine M.eql_t (by omega) ?_ | refine M.eql_f (by omega) ?_ | refine M.neq_t (by omega) ?_ | refine M.neq_f (by omega) ?_ | refine M.add_i (by omega) (by omega) ?_ | refine M.sub_i (by omega) (by omega) ?_ | refine M.load_i (by assumption) ?_ | refine M.loadB_i (by assumption) rfl ?_ | refine M.st_i (by assumption) ?_ | refine M.stB_i (by assumption) rfl ?_ | refine M.gs_ff ?_ | refine M.gs_tt ?_ | refine M.gs_ft ?_ | refine M.gs_tf ?_ | refine M.stAll_i (by assumption) rfl ?_))
              have k46 := k4.trans k6 (fun _ _ h => h)
              refine M.call_i (has_ret (hset.keep k46 (fun _ _ _ h => h)) (by omega) x) ?_; rintro _ w7 ⟨rfl, k7⟩
              (repeat (first | refine M.len_i ?_ | refine M.nilCheck_i ?_ | refine M.field_i ?_ | refine M.draw_i ?_ | refine M.cap_i ?_ | refine M.gd_tt ?_ | refine M.gd_ff ?_ | refine M.gd_ft ?_ | refine M.gd_tf ?_ | refine M.gd_u ?_ | refine M.pick_t ?_ | refine M.pick_f ?_ | refine M.not_t ?_ | refine M.not_f ?_ | refine M.cond_t ?_ | refine M.cond_f ?_ | refine M.eqNilP_tn ?_ | refine M.eqNilP_ts ?_ | refine M.eqNilP_fn ?_ | refine M.eqNilP_fs ?_ | refine M.eqNilS_tn ?_ | refine M.eqNilS_ts ?_ | refine M.eqNilS_fn ?_ | refine M.eqNilS_fs ?_ | refine M.lss_t (by omega) ?_ | refine M.lss_f (by omega) ?_ | refine M.leq_t (by omega) ?_ | refine M.leq_f (by omega) ?_ | refine M.gtr_t (by omega) ?_ | refine M.gtr_f (by omega) ?_ | refine M.geq_t (by omega) ?_ | refine M.geq_f (by omega) ?_ | refine M.eql_t (by omega) ?_ | refine M.eql_f (by omega) ?_ | refine M.neq_t (by omega) ?_ | refine M.neq_f (by omega) ?_ | refine M.add_i (by omega) (by omega) ?_ | refine M.sub_i (by omega) (by omega) ?_ | refine M.load_i (by assumption) ?_ | refine M.loadB_i (by assumption) rfl ?_ | refine M.st_i (by assumption) ?_ | refine M.stB_i (by assumption) rfl ?_ | refine M.gs_ff ?_ | refine M.gs_tt ?_ | refine M.gs_ft ?_ | refine M.gs_tf ?_ | refine M.stAll_i (by assumption) rfl ?_))
              rw [e3] at go
              exact go w7 (k6.trans k7 (fun _ _ h => h)) (gl.keep k7 (fun _ _ _ h => h))
        · (repeat (first | refine M.len_i ?_ | refine M.nilCheck_i ?_ | refine M.field_i ?_ | refine M.draw_i ?_ | refine M.cap_i ?_ | refine M.gd_tt ?_ | refine M.gd_ff ?_ | refine M.gd_ft ?_ | refine M.gd_tf ?_ | refine M.gd_u ?_ | refine M.pick_t ?_ | refine M.pick_f ?_ | refine M.not_t ?_ | refine M.not_f ?_ | refine M.cond_t ?_ | refine M.cond_f ?_ | refine M.eqNilP_tn ?_ | refine M.eqNilP_ts ?_ | refine M.eqNilP_fn ?_ | refine M.eqNilP_fs ?_ | refine M.eqNilS_tn ?_ | refine M.eqNilS_ts ?_ | refine M.eqNilS_fn ?_ | refine M.eqNilS_fs ?_ | refine M.lss_t (by omega) ?_ | refine M.lss_f (by omega) ?_ | refine M.leq_t (by omega) ?_ | refine M.leq_f (by omega) ?_ | refine M.gtr_t (by omega) ?_ | refine M.gtr_f (by omega) ?_ | refine M.geq_t (by omega) ?_ | refine M.geq_f (by omega) ?_ | refine M.eql_t (by omega) ?_ | refine M.eql_f (by omega) ?_ | refine M.neq_t (by omega) ?_ | refine M.neq_f (by omega) ?_ | refine M.add_i (by omega) (by omega) ?_ | refine M.sub_i (by omega) (by omega) ?_ | refine M.load_i (by assumption) ?_ | refine M.loadB_i (by assumption) rfl ?_ | refine M.st_i (by assumption) ?_ | refine M.stB_i (by assumption) rfl ?_ | refine M.gs_ff ?_ | refine M.gs_tt ?_ | refine M.gs_ft ?_ | refine M.gs_tf ?_ | refine M.stAll_i (by assumption) rfl ?_))
          have : j = c.length := by omega
          subst this
          rw [List.take_length] at gl ⊢
          have ho6 := ho.keep k6
          refine M.not_i ?_
          cases hb : c.any (inB set) with
          | true =>
            (repeat (first | refine M.len_i ?_ | refine M.nilCheck_i ?_ | refine M.field_i ?_ | refine M.draw_i ?_ | refine M.cap_i ?_ | refine M.gd_tt ?_ | refine M.gd_ff ?_ | refine M.gd_ft ?_ | refine M.gd_tf ?_ | refine M.gd_u ?_ | refine M.pick_t ?_ | refine M.pick_f ?_ | refine M.not_t ?_ | refine M.not_f ?_ | refine M.cond_t ?_ | refine M.cond_f ?_ | refine M.eqNilP_tn ?_ | refine M.eqNilP_ts ?_ | refine M.eqNilP_fn ?_ | refine M.eqNilP_fs ?_ | refine M.eqNilS_tn ?_ | refine M.eqNilS_ts ?_ | refine M.eqNilS_fn ?_ | refine M.eqNilS_fs ?_ | refine M.lss_t (by omega) ?_ | refine M.lss_f (by omega) ?_ | refine M.leq_t (by omega) ?_ | refine M.leq_f (by omega) ?_ | refine M.gtr_t (by omega) ?_ | refine M.gtr_f (by omega) ?_ | refine M.geq_t (by omega) ?_ | refine M.geq_f (by omega) ?_ | refine M.eql_t (by omega) ?_ | refine M.eql_f (by omega) ?_ | refine M.neq_t (by omega) ?_ | refine M.neq_f (by omega) ?_ | refine M.add_i (by omega) (by omega) ?_ | refine M.sub_i (by omega) (by omega) ?_ | refine M.load_i (by assumption) ?_ | refine M.loadB_i (by assumption) rfl ?_ | refine M.st_i (by assumption) ?_ | refine M.stB_i (by assumption) rfl ?_ | refine M.gs_ff ?_ | refine M.gs_tt ?_ | refine M.gs_ft ?_ | refine M.gs_tf ?_ | refine M.stAll_i (by assumption) rfl ?_))
            rw [hb] at e1
            simp only [if_true, List.append_nil] at e1
            exact hK2 _ _ ⟨vo, us', rfl, e1 ▸ ho6, k4.trans k6 (fun _ _ h => h)⟩
          | false =>
            rw [hb] at e1
            simp only [Bool.false_eq_true, if_false] at e1
            (repeat (first | refine M.len_i ?_ | refine M.nilCheck_i ?_ | refine M.field_i ?_ | refine M.draw_i ?_ | refine M.cap_i ?_ | refine M.gd_tt ?_ | refine M.gd_ff ?_ | refine M.gd_ft ?_ | refine M.gd_tf ?_ | refine M.gd_u ?_ | refine M.pick_t ?_ | refine M.pick_f ?_ | refine M.not_t ?_ | refine M.not_f ?_ | refine M.cond_t ?_ | refine M.cond_f ?_ | refine M.eqNilP_tn ?_ | refine M.eqNilP_ts ?_ | refine M.eqNilP_fn ?_ | refine M.eqNilP_fs ?_ | refine M.eqNilS_tn ?_ | refine M.eqNilS_ts ?_ | refine M.eqNilS_fn ?_ | refine M.eqNilS_fs ?_ | refine M.lss_t (by omega) ?_ | refine M.lss_f (by omega) ?_ | refine M.leq_t (by omega) ?_ | refine M.leq_f (by omega) ?_ | refine M.gtr_t (by omega) ?_ | refine M.gtr_f (by omega) ?_ | refine M.geq_t (by omega) ?_ | refine M.geq_f (by omega) ?_ | refine M.eql_t (by omega) ?_ | refine M.eql_f (by omega) ?_ | refine M.neq_t (by omega) ?_ | refine M.neq_f (by omega) ?_ | refine M.add_i (by omega) (by omega) ?_ | refine M.sub_i (by omega) (by omega) ?_ | refine M.load_i (by assumption) ?_ | refine M.loadB_i (by assumption) rfl ?_ | refine M.st_i (by assumption) ?_ | refine M.stB_i (by assumption) rfl ?_ | refine M.gs_ff ?_ | refine M.gs_tt ?_ | refine M.gs_ft ?_ | refine M.gs_tf ?_ | refine M.stAll_i (by assumption) rfl ?_))
            refine M.appendOL_i ho6 (GI.ofL gl _ (fun b hb h h2 => by have := (ho.lt h2).2; omega)) (by omega) ?_ (fun v7 us7 w7 h7 k7 => ?_)
            · have := unitsL_len set (l.take i)
              rw [List.length_take] at this
              omega
            · exact hK2 _ _ ⟨v7, us7, rfl, e1 ▸ h7, (k4.trans k6 (fun _ _ h => h)).trans k7 (fun b hb h => by omega)⟩
    · (repeat (first | refine M.len_i ?_ | refine M.nilCheck_i ?_ | refine M.field_i ?_ | refine M.draw_i ?_ | refine M.cap_i ?_ | refine M.gd_tt ?_ | refine M.gd_ff ?_ | refine M.gd_ft ?_ | refine M.gd_tf ?_ | refine M.gd_u ?_ | refine M.pick_t ?_ | refine M.pick_f ?_ | refine M.not_t ?_ | refine M.not_f ?_ | refine M.cond_t ?_ | refine M.cond_f ?_ | refine M.eqNilP_tn ?_ | refine M.eqNilP_ts ?_ | refine M.eqNilP_fn ?_ | refine M.eqNilP_fs ?_ | refine M.eqNilS_tn ?_ | refine M.eqNilS_ts ?_ | refine M.eqNilS_fn ?_ | refine M.eqNilS_fs ?_ | refine M.lss_t (by omega) ?_ | refine M.lss_f (by omega) ?_ | refine M.leq_t (by omega) ?_ | refine M.leq_f (by omega) ?_ | refine M.gtr_t (by omega) ?_ | refine M.gtr_f (by omega) ?_ | refine M.geq_t (by omega) ?_ | refine M.geq_f (by omega) ?_ | refine M.eql_t (by omega) ?_ | refine M.eql_f (by omega) ?_ | refine M.neq_t (by omega) ?_ | refine M.neq_f (by omega) ?_ | refine M.add_i (by omega) (by omega) ?_ | refine M.sub_i (by omega) (by omega) ?_ | refine M.load_i (by assumption) ?_ | refine M.loadB_i (by assumption) rfl ?_ | refine M.st_i (by assumption) ?_ | refine M.stB_i (by assumption) rfl ?_ | refine M.gs_ff ?_ | refine M.gs_tt ?_ | refine M.gs_ft ?_ | refine M.gs_tf ?_ | refine M.stAll_i (by assumption) rfl ?_))
      have : i = l.length := by omega
      subst this
      rw [List.take_length] at ho
      exact ⟨vo, _, set, true, rfl, hR, ho.ll, hset4, k1.trans k4 (fun _ _ h => h)⟩
/-- Two lists of lists, one by one. -/
theorem all_ret {w : World} {D D' : Nat → Prop} {u v : Value} {l m : List (List Int)} (h1 : LL w D u l) (h2 : LL w D' v m) (hf : l.length ≤ 1000000) (hm : m.length ≤ 1000000) (hc : ∀ c ∈ l, Few c.length) :
    Ret Try.prog 31 #[u, v] w (fun r w' => r = .bool (decide (l = m)) ∧ Keep w w' No) := by
  obtain ⟨A, cp, us, rfl, h1, _⟩ := h1
  obtain ⟨B, cq, vs, rfl, h2, _⟩ := h2
  refine ok31 _ _ _ _ ?_
  unfold sh31
  by_cases hlen : l.length = m.length
  · (repeat (first | refine M.len_i ?_ | refine M.nilCheck_i ?_ | refine M.field_i ?_ | refine M.draw_i ?_ | refine M.cap_i ?_ | refine M.gd_tt ?_ | refine M.gd_ff ?_ | refine M.gd_ft ?_ | refine M.gd_tf ?_ | refine M.gd_u ?_ | refine M.pick_t ?_ | refine M.pick_f ?_ | refine M.not_t ?_ | refine M.not_f ?_ | refine M.cond_t ?_ | refine M.cond_f ?_ | refine M.eqNilP_tn ?_ | refine M.eqNilP_ts ?_ | refine M.eqNilP_fn ?_ | refine M.eqNilP_fs ?_ | refine M.eqNilS_tn ?_ | refine M.eqNilS_ts ?_ | refine M.eqNilS_fn ?_ | refine M.eqNilS_fs ?_ | refine M.lss_t (by omega) ?_ | refine M.lss_f (by omega) ?_ | refine M.leq_t (by omega) ?_ | refine M.leq_f (by omega) ?_ | refine M.gtr_t (by omega) ?_ | refine M.gtr_f (by omega) ?_ | refine M.geq_t (by omega) ?_ | refine M.geq_f (by omega) ?_ | refine M.eql_t (by omega) ?_ | refine M.eql_f (by omega) ?_ | refine M.neq_t (by omega) ?_ | refine M.neq_f (by omega) ?_ | refine M.add_i (by omega) (by omega) ?_ | refine M.sub_i (by omega) (by omega) ?_ | refine M.load_i (by assumption) ?_ | refine M.loadB_i (by assumption) rfl ?_ | refine M.st_i (by assumption) ?_ | refine M.stB_i (by assumption) rfl ?_ | refine M.gs_ff ?_ | refine M.gs_tt ?_ | refine M.gs_ft ?_ | refine M.gs_tf ?_ | refine M.stAll_i (by assumption) rfl ?_))
    refine M.loop_i (σ := Nat) (fun i vals w' => vals = [vi i] ∧ i ≤ l.length ∧ l.take i = m.take i ∧ Keep w w' No) (fun i => l.length - i) 0 ⟨rfl, by omega, by simp, Keep.refl _ _⟩ ?_
    rintro i vals w1 K ⟨rfl, hi, he, k1⟩ hK _
    simp only [List.getD_cons_zero, List.getD_cons_succ]
    by_cases hlt : i < l.length
    · obtain ⟨c, hcc⟩ : ∃ c, l[i]? = some c := ⟨_, List.getElem?_eq_getElem hlt⟩
      obtain ⟨d, hdd⟩ : ∃ d, m[i]? = some d := ⟨_, List.getElem?_eq_getElem (by omega)⟩
      (repeat (first | refine M.len_i ?_ | refine M.nilCheck_i ?_ | refine M.field_i ?_ | refine M.draw_i ?_ | refine M.cap_i ?_ | refine M.gd_tt ?_ | refine M.gd_ff ?_ | refine M.gd_ft ?_ | refine M.gd_tf ?_ | refine M.gd_u ?_ | refine M.pick_t ?_ | refine M.pick_f ?_ | refine M.not_t ?_ | refine M.not_f ?_ | refine M.cond_t ?_ | refine M.cond_f ?_ | refine M.eqNilP_tn ?_ | refine M.eqNilP_ts ?_ | refine M.eqNilP_fn ?_ | refine M.eqNilP_fs ?_ | refine M.eqNilS_tn ?_ | refine M.eqNilS_ts ?_ | refine M.eqNilS_fn ?_ | refine M.eqNilS_fs ?_ | refine M.lss_t (by omega) ?_ | refine M.lss_f (by omega) ?_ | refine M.leq_t (by omega) ?_ | refine M.leq_f (by omega) ?_ | refine M.gtr_t (by omega) ?_ | refine M.gtr_f (by omega) ?_ | refine M.geq_t (by omega) ?_ | refine M.geq_f (by omega) ?_ | refine M.eql_t (by omega) ?_ | refine M.eql_f (by omega) ?_ | refine M.neq_t (by omega) ?_ | refine M.neq_f (by omega) ?_ | refine M.add_i (by omega) (by omega) ?_ | refine M.sub_i (by omega) (by omega) ?_ | refine M.load_i (by assumption) ?_ | refine M.loadB_i (by assumption) rfl ?_ | refine M.st_i (by assumption) ?_ | refine M.stB_i (by assumption) rfl ?_ | refine M.gs_ff ?_ | refine M.gs_tt ?_ | refine M.gs_ft ?_ | refine M.gs_tf ?_ | refine M.stAll_i (by assumption) rfl ?_))
      have k1d := k1.trans (Keep.drew w1 No) (fun _ _ h => h)
      refine M.idxLL_i (h1.keep k1d (fun _ _ _ h => h)) rfl (by omega) (c := c) (by simpa using hcc) (fun bb oo x hcell hx => ?_)
      (repeat (first | refine M.len_i ?_ | refine M.nilCheck_i ?_ | refine M.field_i ?_ | refine M.draw_i ?_ | refine M.cap_i ?_ | refine M.gd_tt ?_ | refine M.gd_ff ?_ | refine M.gd_ft ?_ | refine M.gd_tf ?_ | refine M.gd_u ?_ | refine M.pick_t ?_ | refine M.pick_f ?_ | refine M.not_t ?_ | refine M.not_f ?_ | refine M.cond_t ?_ | refine M.cond_f ?_ | refine M.eqNilP_tn ?_ | refine M.eqNilP_ts ?_ | refine M.eqNilP_fn ?_ | refine M.eqNilP_fs ?_ | refine M.eqNilS_tn ?_ | refine M.eqNilS_ts ?_ | refine M.eqNilS_fn ?_ | refine M.eqNilS_fs ?_ | refine M.lss_t (by omega) ?_ | refine M.lss_f (by omega) ?_ | refine M.leq_t (by omega) ?_ | refine M.leq_f (by omega) ?_ | refine M.gtr_t (by omega) ?_ | refine M.gtr_f (by omega) ?_ | refine M.geq_t (by omega) ?_ | refine M.geq_f (by omega) ?_ | refine M.eql_t (by omega) ?_ | refine M.eql_f (by omega) ?_ | refine M.neq_t (by omega) ?_ | refine M.neq_f (by omega) ?_ | refine M.add_i (by omega) (by omega) ?_ | refine M.sub_i (by omega) (by omega) ?_ | refine M.load_i (by assumption) ?_ | refine M.loadB_i (by assumption) rfl ?_ | refine M.st_i (by assumption) ?_ | refine M.stB_i (by assumption) rfl ?_ | refine M.gs_ff ?_ | refine M.gs_tt ?_ | refine M.gs_ft ?_ | refine M.gs_tf ?_ | refine M.stAll_i (by assumption) rfl ?_))
      refine M.idxLL_i (h2.keep k1d (fun _ _ _ h => h)) rfl (by omega) (c := d) (by simpa using hdd) (fun bb oo y hcell hy => ?_)
      (repeat (first | refine M.len_i ?_ | refine M.nilCheck_i ?_ | refine M.field_i ?_ | refine M.draw_i ?_ | refine M.cap_i ?_ | refine M.gd_tt ?_ | refine M.gd_ff ?_ | refine M.gd_ft ?_ | refine M.gd_tf ?_ | refine M.gd_u ?_ | refine M.pick_t ?_ | refine M.pick_f ?_ | refine M.not_t ?_ | refine M.not_f ?_ | refine M.cond_t ?_ | refine M.cond_f ?_ | refine M.eqNilP_tn ?_ | refine M.eqNilP_ts ?_ | refine M.eqNilP_fn ?_ | refine M.eqNilP_fs ?_ | refine M.eqNilS_tn ?_ | refine M.eqNilS_ts ?_ | refine M.eqNilS_fn ?_ | refine M.eqNilS_fs ?_ | refine M.lss_t (by omega) ?_ | refine M.lss_f (by omega) ?_ | refine M.leq_t (by omega) ?_ | refine M.leq_f (by omega) ?_ | refine M.gtr_t (by omega) ?_ | refine M.gtr_f (by omega) ?_ | refine M.geq_t (by omega) ?_ | refine M.geq_f (by omega) ?_ | refine M.eql_t (by omega) ?_ | refine M.eql_f (by omega) ?_ | refine M.neq_t (by omega) ?_ | refine M.neq_f (by omega) ?_ | refine M.add_i (by omega) (by omega) ?_ | refine M.sub_i (by omega) (by omega) ?_ | refine M.load_i (by assumption) ?_ | refine M.loadB_i (by assumption) rfl ?_ | refine M.st_i (by assumption) ?_ | refine M.stB_i (by assumption) rfl ?_ | refine M.gs_ff ?_ | refine M.gs_tt ?_ | refine M.gs_ft ?_ | refine M.gs_tf ?_ | refine M.stAll_i (by assumption) rfl ?_))
      refine M.call_i (same_ret hx hy (hc c (List.mem_of_getElem? hcc))) ?_; rintro _ w2 ⟨rfl, k2⟩
      refine M.not_i ?_
      by_cases hcd : c = d
      · subst hcd
        rw [show decide (c = c) = true from decide_eq_true rfl]
        (repeat (first | refine M.len_i ?_ | refine M.nilCheck_i ?_ | refine M.field_i ?_ | refine M.draw_i ?_ | refine M.cap_i ?_ | refine M.gd_tt ?_ | refine M.gd_ff ?_ | refine M.gd_ft ?_ | refine M.gd_tf ?_ | refine M.gd_u ?_ | refine M.pick_t ?_ | refine M.pick_f ?_ | refine M.not_t ?_ | refine M.not_f ?_ | refine M.cond_t ?_ | refine M.cond_f ?_ | refine M.eqNilP_tn ?_ | refine M.eqNilP_ts ?_ | refine M.eqNilP_fn ?_ | refine M.eqNilP_fs ?_ | refine M.eqNilS_tn ?_ | refine M.eqNilS_ts ?_ | refine M.eqNilS_fn ?_ | refine M.eqNilS_fs ?_ | refine M.lss_t (by omega) ?_ | refine M.lss_f (by omega) ?_ | refine M.leq_t (by omega) ?_ | refine M.leq_f (by omega) ?_ | refine M.gtr_t (by omega) ?_ | refine M.gtr_f (by omega) ?_ | refine M.geq_t (by omega) ?_ | refine M.geq_f (by omega) ?_ | refine M.eql_t (by omega) ?_ | refine M.eql_f (by omega) ?_ | refine M.neq_t (by omega) ?_ | refine M.neq_f (by omega) ?_ | refine M.add_i (by omega) (by omega) ?_ | refine M.sub_i (by omega) (by omega) ?_ | refine M.load_i (by assumption) ?_ | refine M.loadB_i (by assumption) rfl ?_ | refine M.st_i (by assumption) ?_ | refine M.stB_i (by assumption) rfl ?_ | refine M.gs_ff ?_ | refine M.gs_tt ?_ | refine M.gs_ft ?_ | refine M.gs_tf ?_ | refine M.stAll_i (by assumption) rfl ?_))
        exact hK (i + 1) _ _ (by omega) ⟨by simp, by omega, by rw [take_snoc hcc, take_snoc hdd, he], k1d.trans k2 (fun _ _ h => h)⟩
      · rw [decide_eq_false hcd]
        (repeat (first | refine M.len_i ?_ | refine M.nilCheck_i ?_ | refine M.field_i ?_ | refine M.draw_i ?_ | refine M.cap_i ?_ | refine M.gd_tt ?_ | refine M.gd_ff ?_ | refine M.gd_ft ?_ | refine M.gd_tf ?_ | refine M.gd_u ?_ | refine M.pick_t ?_ | refine M.pick_f ?_ | refine M.not_t ?_ | refine M.not_f ?_ | refine M.cond_t ?_ | refine M.cond_f ?_ | refine M.eqNilP_tn ?_ | refine M.eqNilP_ts ?_ | refine M.eqNilP_fn ?_ | refine M.eqNilP_fs ?_ | refine M.eqNilS_tn ?_ | refine M.eqNilS_ts ?_ | refine M.eqNilS_fn ?_ | refine M.eqNilS_fs ?_ | refine M.lss_t (by omega) ?_ | refine M.lss_f (by omega) ?_ | refine M.leq_t (by omega) ?_ | refine M.leq_f (by omega) ?_ | refine M.gtr_t (by omega) ?_ | refine M.gtr_f (by omega) ?_ | refine M.geq_t (by omega) ?_ | refine M.geq_f (by omega) ?_ | refine M.eql_t (by omega) ?_ | refine M.eql_f (by omega) ?_ | refine M.neq_t (by omega) ?_ | refine M.neq_f (by omega) ?_ | refine M.add_i (by omega) (by omega) ?_ | refine M.sub_i (by omega) (by omega) ?_ | refine M.load_i (by assumption) ?_ | refine M.loadB_i (by assumption) rfl ?_ | refine M.st_i (by assumption) ?_ | refine M.stB_i (by assumption) rfl ?_ | refine M.gs_ff ?_ | refine M.gs_tt ?_ | refine M.gs_ft ?_ | refine M.gs_tf ?_ | refine M.stAll_i (by assumption) rfl ?_))
        refine ⟨?_, k1d.trans k2 (fun _ _ h => h)⟩
        have : l ≠ m := fun e => by
          rw [e, hdd] at hcc
          exact hcd (Option.some.inj hcc).symm
        simp [this]
    · (repeat (first | refine M.len_i ?_ | refine M.nilCheck_i ?_ | refine M.field_i ?_ | refine M.draw_i ?_ | refine M.cap_i ?_ | refine M.gd_tt ?_ | refine M.gd_ff ?_ | refine M.gd_ft ?_ | refine M.gd_tf ?_ | refine M.gd_u ?_ | refine M.pick_t ?_ | refine M.pick_f ?_ | refine M.not_t ?_ | refine M.not_f ?_ | refine M.cond_t ?_ | refine M.cond_f ?_ | refine M.eqNilP_tn ?_ | refine M.eqNilP_ts ?_ | refine M.eqNilP_fn ?_ | refine M.eqNilP_fs ?_ | refine M.eqNilS_tn ?_ | refine M.eqNilS_ts ?_ | refine M.eqNilS_fn ?_ | refine M.eqNilS_fs ?_ | refine M.lss_t (by omega) ?_ | refine M.lss_f (by omega) ?_ | refine M.leq_t (by omega) ?_ | refine M.leq_f (by omega) ?_ | refine M.gtr_t (by omega) ?_ | refine M.gtr_f (by omega) ?_ | refine M.geq_t (by omega) ?_ | refine M.geq_f (by omega) ?_ | refine M.eql_t (by omega) ?_ | refine M.eql_f (by omega) ?_ | refine M.neq_t (by omega) ?_ | refine M.neq_f (by omega) ?_ | refine M.add_i (by omega) (by omega) ?_ | refine M.sub_i (by omega) (by omega) ?_ | refine M.load_i (by assumption) ?_ | refine M.loadB_i (by assumption) rfl ?_ | refine M.st_i (by assumption) ?_ | refine M.stB_i (by assumption) rfl ?_ | refine M.gs_ff ?_ | refine M.gs_tt ?_ | refine M.gs_ft ?_ | refine M.gs_tf ?_ | refine M.stAll_i (by assumption) rfl ?_))
      refine ⟨?_, k1⟩
      have : i = l.length := by omega
      subst this
      rw [List.take_length, hlen, List.take_length] at he
      simp [he]
  · (repeat (first | refine M.len_i ?_ | refine M.nilCheck_i ?_ | refine M.field_i ?_ | refine M.draw_i ?_ | refine M.cap_i ?_ | refine M.gd_tt ?_ | refine M.gd_ff ?_ | refine M.gd_ft ?_ | refine M.gd_tf ?_ | refine M.gd_u ?_ | refine M.pick_t ?_ | refine M.pick_f ?_ | refine M.not_t ?_ | refine M.not_f ?_ | refine M.cond_t ?_ | refine M.cond_f ?_ | refine M.eqNilP_tn ?_ | refine M.eqNilP_ts ?_ | refine M.eqNilP_fn ?_ | refine M.eqNilP_fs ?_ | refine M.eqNilS_tn ?_ | refine M.eqNilS_ts ?_ | refine M.eqNilS_fn ?_ | refine M.eqNilS_fs ?_ | refine M.lss_t (by omega) ?_ | refine M.lss_f (by omega) ?_ | refine M.leq_t (by omega) ?_ | refine M.leq_f (by omega) ?_ | refine M.gtr_t (by omega) ?_ | refine M.gtr_f (by omega) ?_ | refine M.geq_t (by omega) ?_ | refine M.geq_f (by omega) ?_ | refine M.eql_t (by omega) ?_ | refine M.eql_f (by omega) ?_ | refine M.neq_t (by omega) ?_ | refine M.neq_f (by omega) ?_ | refine M.add_i (by omega) (by omega) ?_ | refine M.sub_i (by omega) (by omega) ?_ | refine M.load_i (by assumption) ?_ | refine M.loadB_i (by assumption) rfl ?_ | refine M.st_i (by assumption) ?_ | refine M.stB_i (by assumption) rfl ?_ | refine M.gs_ff ?_ | refine M.gs_tt ?_ | refine M.gs_ft ?_ | refine M.gs_tf ?_ | refine M.stAll_i (by assumption) rfl ?_))
    refine ⟨?_, Keep.refl _ _⟩
    have : l ≠ m := fun e => hlen (by rw [e])
    simp [this]
theorem dropC {D : Nat → Prop} {v : Value} {lits : List Int} {p : Nat} (hf : Few lits.length) :
    PredF (.func (.func 70) #[] #[ptr p]) (fun w => Blk w p [v] ∧ LV vi w D v lits) (inB lits) := by
  rintro x w k ⟨hb, hm⟩ hk
  refine M.callv_i (enters_of Try.func70 (by kernel_rfl) rfl) (Q := fun r w' => r = .bool (inB lits x) ∧ Keep w w' No) ?_ ?_
  · show Ret Try.prog 70 #[vi x, ptr p] w _
    refine ok70 _ _ _ _ ?_
    unfold sh70
    (repeat (first | refine M.len_i ?_ | refine M.nilCheck_i ?_ | refine M.field_i ?_ | refine M.draw_i ?_ | refine M.cap_i ?_ | refine M.gd_tt ?_ | refine M.gd_ff ?_ | refine M.gd_ft ?_ | refine M.gd_tf ?_ | refine M.gd_u ?_ | refine M.pick_t ?_ | refine M.pick_f ?_ | refine M.not_t ?_ | refine M.not_f ?_ | refine M.cond_t ?_ | refine M.cond_f ?_ | refine M.eqNilP_tn ?_ | refine M.eqNilP_ts ?_ | refine M.eqNilP_fn ?_ | refine M.eqNilP_fs ?_ | refine M.eqNilS_tn ?_ | refine M.eqNilS_ts ?_ | refine M.eqNilS_fn ?_ | refine M.eqNilS_fs ?_ | refine M.lss_t (by omega) ?_ | refine M.lss_f (by omega) ?_ | refine M.leq_t (by omega) ?_ | refine M.leq_f (by omega) ?_ | refine M.gtr_t (by omega) ?_ | refine M.gtr_f (by omega) ?_ | refine M.geq_t (by omega) ?_ | refine M.geq_f (by omega) ?_ | refine M.eql_t (by omega) ?_ | refine M.eql_f (by omega) ?_ | refine M.neq_t (by omega) ?_ | refine M.neq_f (by omega) ?_ | refine M.add_i (by omega) (by omega) ?_ | refine M.sub_i (by omega) (by omega) ?_ | refine M.load_i (by assumption) ?_ | refine M.loadB_i (by assumption) rfl ?_ | refine M.st_i (by assumption) ?_ | refine M.stB_i (by assumption) rfl ?_ | refine M.gs_ff ?_ | refine M.gs_tt ?_ | refine M.gs_ft ?_ | refine M.gs_tf ?_ | refine M.stAll_i (by assumption) rfl ?_))
    refine M.call_i (chas_ret hm hf x) ?_; rintro _ w1 ⟨rfl, k1⟩
    exact ⟨rfl, k1⟩
  · rintro r w1 ⟨rfl, k1⟩
    exact hk w1 ⟨hb.keep k1 (fun h => h), hm.keep k1 (fun _ _ _ h => h)⟩ k1
theorem dropL_snoc (l : List (List Int)) (c p : List Int) : dropL (l ++ [c]) p = dropL l p ++ if c.any (inB p) then [] else [c] := by
  unfold dropL
  rw [List.filter_append]
  congr 1
  cases h : c.any (inB p) <;> simp [h]
theorem dropL_len (l : List (List Int)) (p : List Int) : (dropL l p).length ≤ l.length := List.length_filter_le _ _
set_option maxHeartbeats 1000000 in
theorem drop_ret {w : World} {D D' : Nat → Prop} {u v : Value} {l : List (List Int)} {lits : List Int} (hl : LL w D u l) (hp : LV vi w D' v lits) (hfl : l.length ≤ 1000000) (hfc : ∀ c ∈ l, Few c.length) (hf : Few lits.length) :
    Ret Try.prog 36 #[u, v] w (fun r w' => LL w' (fun _ => True) r (dropL l lits) ∧ Keep w w' No) := by
  obtain ⟨A, cp, us, rfl, hlr, hcp⟩ := id hl
  obtain ⟨B, cq, rfl, _, _⟩ := id hp
  refine ok36 _ _ _ _ ?_
  unfold sh36
  refine M.new_i (l := [.slice B lits.length cq]) (fun w1 b1 k1 s1 => ?_)
  have hl1 := hlr.keep k1 (fun _ _ _ h => h)
  have hl1 := hl1.mono (D' := fun b => b < w1.heap.size) (fun b hb _ => hb)
  have hp1 := hp.keep k1 (fun _ _ _ h => h)
  (repeat (first | refine M.len_i ?_ | refine M.nilCheck_i ?_ | refine M.field_i ?_ | refine M.draw_i ?_ | refine M.cap_i ?_ | refine M.gd_tt ?_ | refine M.gd_ff ?_ | refine M.gd_ft ?_ | refine M.gd_tf ?_ | refine M.gd_u ?_ | refine M.pick_t ?_ | refine M.pick_f ?_ | refine M.not_t ?_ | refine M.not_f ?_ | refine M.cond_t ?_ | refine M.cond_f ?_ | refine M.eqNilP_tn ?_ | refine M.eqNilP_ts ?_ | refine M.eqNilP_fn ?_ | refine M.eqNilP_fs ?_ | refine M.eqNilS_tn ?_ | refine M.eqNilS_ts ?_ | refine M.eqNilS_fn ?_ | refine M.eqNilS_fs ?_ | refine M.lss_t (by omega) ?_ | refine M.lss_f (by omega) ?_ | refine M.leq_t (by omega) ?_ | refine M.leq_f (by omega) ?_ | refine M.gtr_t (by omega) ?_ | refine M.gtr_f (by omega) ?_ | refine M.geq_t (by omega) ?_ | refine M.geq_f (by omega) ?_ | refine M.eql_t (by omega) ?_ | refine M.eql_f (by omega) ?_ | refine M.neq_t (by omega) ?_ | refine M.neq_f (by omega) ?_ | refine M.add_i (by omega) (by omega) ?_ | refine M.sub_i (by omega) (by omega) ?_ | refine M.load_i (by assumption) ?_ | refine M.loadB_i (by assumption) rfl ?_ | refine M.st_i (by assumption) ?_ | refine M.stB_i (by assumption) rfl ?_ | refine M.gs_ff ?_ | refine M.gs_tt ?_ | refine M.gs_ft ?_ | refine M.gs_tf ?_ | refine M.stAll_i (by assumption) rfl ?_))
  refine M.loop_i (σ := Nat) (fun i vals w' => ∃ vo us', vals = [vo, vi i] ∧ i ≤ l.length ∧ OL w1 w' vo us' (dropL (l.take i) lits) ∧ Keep w1 w' No) (fun i => l.length - i) 0
    ⟨_, [], rfl, by omega, OL.nil _ _, Keep.refl _ _⟩ ?_
  rintro i vals w4 K ⟨vo, us', rfl, hi, ho, k4⟩ hK _
  simp only [List.getD_cons_zero, List.getD_cons_succ]
  have hl4 := hl1.keep k4 (fun _ _ _ h => h)
  have hp4 := hp1.keep k4 (fun _ _ _ h => h)
  have b4 := b1.keep k4 (fun h => h)
  have q4 := k4.size
  by_cases hlt : i < l.length
  · obtain ⟨c, hc⟩ : ∃ c, l[i]? = some c := ⟨_, List.getElem?_eq_getElem hlt⟩
    have hcm := List.mem_of_getElem? hc
    have e1 := dropL_snoc (l.take i) c lits
    rw [← take_snoc hc] at e1
    (repeat (first | refine M.len_i ?_ | refine M.nilCheck_i ?_ | refine M.field_i ?_ | refine M.draw_i ?_ | refine M.cap_i ?_ | refine M.gd_tt ?_ | refine M.gd_ff ?_ | refine M.gd_ft ?_ | refine M.gd_tf ?_ | refine M.gd_u ?_ | refine M.pick_t ?_ | refine M.pick_f ?_ | refine M.not_t ?_ | refine M.not_f ?_ | refine M.cond_t ?_ | refine M.cond_f ?_ | refine M.eqNilP_tn ?_ | refine M.eqNilP_ts ?_ | refine M.eqNilP_fn ?_ | refine M.eqNilP_fs ?_ | refine M.eqNilS_tn ?_ | refine M.eqNilS_ts ?_ | refine M.eqNilS_fn ?_ | refine M.eqNilS_fs ?_ | refine M.lss_t (by omega) ?_ | refine M.lss_f (by omega) ?_ | refine M.leq_t (by omega) ?_ | refine M.leq_f (by omega) ?_ | refine M.gtr_t (by omega) ?_ | refine M.gtr_f (by omega) ?_ | refine M.geq_t (by omega) ?_ | refine M.geq_f (by omega) ?_ | refine M.eql_t (by omega) ?_ | refine M.eql_f (by omega) ?_ | refine M.neq_t (by omega) ?_ | refine M.neq_f (by omega) ?_ | refine M.add_i (by omega) (by omega) ?_ | refine M.sub_i (by omega) (by omega) ?_ | refine M.load_i (by assumption) ?_ | refine M.loadB_i (by assumption) rfl ?_ | refine M.st_i (by assumption) ?_ | refine M.stB_i (by assumption) rfl ?_ | refine M.gs_ff ?_ | refine M.gs_tt ?_ | refine M.gs_ft ?_ | refine M.gs_tf ?_ | refine M.stAll_i (by assumption) rfl ?_))
    refine M.share_j (fun vals w' => ∃ vo us', vals = [vo] ∧ OL w1 w' vo us' (dropL (l.take (i + 1)) lits) ∧ Keep w1 w' No) ?_ ?_
    · rintro vals w5 ⟨vo, us', rfl, ho, k5⟩ _
      simp only [List.getD_cons_zero, List.getD_cons_succ]
      (repeat (first | refine M.len_i ?_ | refine M.nilCheck_i ?_ | refine M.field_i ?_ | refine M.draw_i ?_ | refine M.cap_i ?_ | refine M.gd_tt ?_ | refine M.gd_ff ?_ | refine M.gd_ft ?_ | refine M.gd_tf ?_ | refine M.gd_u ?_ | refine M.pick_t ?_ | refine M.pick_f ?_ | refine M.not_t ?_ | refine M.not_f ?_ | refine M.cond_t ?_ | refine M.cond_f ?_ | refine M.eqNilP_tn ?_ | refine M.eqNilP_ts ?_ | refine M.eqNilP_fn ?_ | refine M.eqNilP_fs ?_ | refine M.eqNilS_tn ?_ | refine M.eqNilS_ts ?_ | refine M.eqNilS_fn ?_ | refine M.eqNilS_fs ?_ | refine M.lss_t (by omega) ?_ | refine M.lss_f (by omega) ?_ | refine M.leq_t (by omega) ?_ | refine M.leq_f (by omega) ?_ | refine M.gtr_t (by omega) ?_ | refine M.gtr_f (by omega) ?_ | refine M.geq_t (by omega) ?_ | refine M.geq_f (by omega) ?_ | refine M.eql_t (by omega) ?_ | refine M.eql_f (by omega) ?_ | refine M.neq_t (by omega) ?_ | refine M.neq_f (by omega) ?_ | refine M.add_i (by omega) (by omega) ?_ | refine M.sub_i (by omega) (by omega) ?_ | refine M.load_i (by assumption) ?_ | refine M.loadB_i (by assumption) rfl ?_ | refine M.st_i (by assumption) ?_ | refine M.stB_i (by assumption) rfl ?_ | refine M.gs_ff ?_ | refine M.gs_tt ?_ | refine M.gs_ft ?_ | refine M.gs_tf ?_ | refine M.stAll_i (by assumption) rfl ?_))
      exact hK (i + 1) _ _ (by omega) ⟨vo, us', by simp, by omega, ho, k5⟩
    · intro K2 hK2
      refine M.idxLL_i hl4 rfl (by omega) (c := c) (by simpa using hc) (fun bb oo x hcell hx => ?_)
      (repeat (first | refine M.len_i ?_ | refine M.nilCheck_i ?_ | refine M.field_i ?_ | refine M.draw_i ?_ | refine M.cap_i ?_ | refine M.gd_tt ?_ | refine M.gd_ff ?_ | refine M.gd_ft ?_ | refine M.gd_tf ?_ | refine M.gd_u ?_ | refine M.pick_t ?_ | refine M.pick_f ?_ | refine M.not_t ?_ | refine M.not_f ?_ | refine M.cond_t ?_ | refine M.cond_f ?_ | refine M.eqNilP_tn ?_ | refine M.eqNilP_ts ?_ | refine M.eqNilP_fn ?_ | refine M.eqNilP_fs ?_ | refine M.eqNilS_tn ?_ | refine M.eqNilS_ts ?_ | refine M.eqNilS_fn ?_ | refine M.eqNilS_fs ?_ | refine M.lss_t (by omega) ?_ | refine M.lss_f (by omega) ?_ | refine M.leq_t (by omega) ?_ | refine M.leq_f (by omega) ?_ | refine M.gtr_t (by omega) ?_ | refine M.gtr_f (by omega) ?_ | refine M.geq_t (by omega) ?_ | refine M.geq_f (by omega) ?_ | refine M.eql_t (by omega) ?_ | refine M.eql_f (by omega) ?_ | refine M.neq_t (by omega) ?_ | refine M.neq_f (by omega) ?_ | refine M.add_i (by omega) (by omega) ?_ | refine M.sub_i (by omega) (by omega) ?_ | refine M.load_i (by assumption) ?_ | refine M.loadB_i (by assumption) rfl ?_ | refine M.st_i (by assumption) ?_ | refine M.stB_i (by assumption) rfl ?_ | refine M.gs_ff ?_ | refine M.gs_tt ?_ | refine M.gs_ft ?_ | refine M.gs_tf ?_ | refine M.stAll_i (by assumption) rfl ?_))
      obtain ⟨A2, c2, rfl, hr2, hc2⟩ := id hx
      refine M.call_i (containsFunc_ret hx (hfc c hcm) (dropC hf) ⟨b4, hp4⟩) ?_; rintro _ w5 ⟨rfl, hI5, k5⟩
      refine M.not_i ?_
      cases hb : c.any (inB lits) with
      | true =>
        (repeat (first | refine M.len_i ?_ | refine M.nilCheck_i ?_ | refine M.field_i ?_ | refine M.draw_i ?_ | refine M.cap_i ?_ | refine M.gd_tt ?_ | refine M.gd_ff ?_ | refine M.gd_ft ?_ | refine M.gd_tf ?_ | refine M.gd_u ?_ | refine M.pick_t ?_ | refine M.pick_f ?_ | refine M.not_t ?_ | refine M.not_f ?_ | refine M.cond_t ?_ | refine M.cond_f ?_ | refine M.eqNilP_tn ?_ | refine M.eqNilP_ts ?_ | refine M.eqNilP_fn ?_ | refine M.eqNilP_fs ?_ | refine M.eqNilS_tn ?_ | refine M.eqNilS_ts ?_ | refine M.eqNilS_fn ?_ | refine M.eqNilS_fs ?_ | refine M.lss_t (by omega) ?_ | refine M.lss_f (by omega) ?_ | refine M.leq_t (by omega) ?_ | refine M.leq_f (by omega) ?_ | refine M.gtr_t (by omega) ?_ | refine M.gtr_f (by omega) ?_ | refine M.geq_t (by omega) ?_ | refine M.geq_f (by omega) ?_ | refine M.eql_t (by omega) ?_ | refine M.eql_f (by omega) ?_ | refine M.neq_t (by omega) ?_ | refine M.neq_f (by omega) ?_ | refine M.add_i (by omega) (by omega) ?_ | refine M.sub_i (by omega) (by omega) ?_ | refine M.load_i (by assumption) ?_ | refine M.loadB_i (by assumption) rfl ?_ | refine M.st_i (by assumption) ?_ | refine M.stB_i (by assumption) rfl ?_ | refine M.gs_ff ?_ | refine M.gs_tt ?_ | refine M.gs_ft ?_ | refine M.gs_tf ?_ | refine M.stAll_i (by assumption) rfl ?_))
        rw [hb] at e1
        simp only [if_true, List.append_nil] at e1
        exact hK2 _ _ ⟨vo, us', rfl, e1 ▸ ho.keep k5, k4.trans k5 (fun _ _ h => h)⟩
      | false =>
        rw [hb] at e1
        simp only [Bool.false_eq_true, if_false] at e1
        (repeat (first | refine M.len_i ?_ | refine M.nilCheck_i ?_ | refine M.field_i ?_ | refine M.draw_i ?_ | refine M.cap_i ?_ | refine M.gd_tt ?_ | refine M.gd_ff ?_ | refine M.gd_ft ?_ | refine M.gd_tf ?_ | refine M.gd_u ?_ | refine M.pick_t ?_ | refine M.pick_f ?_ | refine M.not_t ?_ | refine M.not_f ?_ | refine M.cond_t ?_ | refine M.cond_f ?_ | refine M.eqNilP_tn ?_ | refine M.eqNilP_ts ?_ | refine M.eqNilP_fn ?_ | refine M.eqNilP_fs ?_ | refine M.eqNilS_tn ?_ | refine M.eqNilS_ts ?_ | refine M.eqNilS_fn ?_ | refine M.eqNilS_fs ?_ | refine M.lss_t (by omega) ?_ | refine M.lss_f (by omega) ?_ | refine M.leq_t (by omega) ?_ | refine M.leq_f (by omega) ?_ | refine M.gtr_t (by omega) ?_ | refine M.gtr_f (by omega) ?_ | refine M.geq_t (by omega) ?_ | refine M.geq_f (by omega) ?_ | refine M.eql_t (by omega) ?_ | refine M.eql_f (by omega) ?_ | refine M.neq_t (by omega) ?_ | refine M.neq_f (by omega) ?_ | refine M.add_i (by omega) (by omega) ?_ | refine M.sub_i (by omega) (by omega) ?_ | refine M.load_i (by assumption) ?_ | refine M.loadB_i (by assumption) rfl ?_ | refine M.st_i (by assumption) ?_ | refine M.stB_i (by assumption) rfl ?_ | refine M.gs_ff ?_ | refine M.gs_tt ?_ | refine M.gs_ft ?_ | refine M.gs_tf ?_ | refine M.stAll_i (by assumption) rfl ?_))
        have q5 := k5.size
        refine M.appendOL_i (ho.keep k5) ((hx.keep k5 (fun _ _ _ h => h)).mono (fun b hb h h2 => by have := (ho.lt h2).1; omega)) (by omega) ?_ (fun v7 us7 w7 h7 k7 => ?_)
        · have := dropL_len (l.take i) lits
          rw [List.length_take] at this
          omega
        · exact hK2 _ _ ⟨v7, us7, rfl, e1 ▸ h7, (k4.trans k5 (fun _ _ h => h)).trans k7 (fun b hb h => by omega)⟩
  · (repeat (first | refine M.len_i ?_ | refine M.nilCheck_i ?_ | refine M.field_i ?_ | refine M.draw_i ?_ | refine M.cap_i ?_ | refine M.gd_tt ?_ | refine M.gd_ff ?_ | refine M.gd_ft ?_ | refine M.gd_tf ?_ | refine M.gd_u ?_ | refine M.pick_t ?_ | refine M.pick_f ?_ | refine M.not_t ?_ | refine M.not_f ?_ | refine M.cond_t ?_ | refine M.cond_f ?_ | refine M.eqNilP_tn ?_ | refine M.eqNilP_ts ?_ | refine M.eqNilP_fn ?_ | refine M.eqNilP_fs ?_ | refine M.eqNilS_tn ?_ | refine M.eqNilS_ts ?_ | refine M.eqNilS_fn ?_ | refine M.eqNilS_fs ?_ | refine M.lss_t (by omega) ?_ | refine M.lss_f (by omega) ?_ | refine M.leq_t (by omega) ?_ | refine M.leq_f (by omega) ?_ | refine M.gtr_t (by omega) ?_ | refine M.gtr_f (by omega) ?_ | refine M.geq_t (by omega) ?_ | refine M.geq_f (by omega) ?_ | refine M.eql_t (by omega) ?_ | refine M.eql_f (by omega) ?_ | refine M.neq_t (by omega) ?_ | refine M.neq_f (by omega) ?_ | refine M.add_i (by omega) (by omega) ?_ | refine M.sub_i (by omega) (by omega) ?_ | refine M.load_i (by assumption) ?_ | refine M.loadB_i (by assumption) rfl ?_ | refine M.st_i (by assumption) ?_ | refine M.stB_i (by assumption) rfl ?_ | refine M.gs_ff ?_ | refine M.gs_tt ?_ | refine M.gs_ft ?_ | refine M.gs_tf ?_ | refine M.stAll_i (by assumption) rfl ?_))
    have : i = l.length := by omega
    subst this
    rw [List.take_length] at ho
    exact ⟨ho.ll, k1.trans k4 (fun _ _ h => h)⟩
set_option maxHeartbeats 1000000 in
theorem rdrop_ret {w : World} {D D' : Nat → Prop} {u v : Value} {l : List (List Int)} {lits : List Int} (hl : LL w D u l) (hp : LV vi w D' v lits) (hfl : l.length ≤ 1000000) (hfc : ∀ c ∈ l, Few c.length) (hf : Few lits.length) :
    Ret Try.prog 37 #[u, v] w (fun r w' => LL w' (fun _ => True) r (dropL l lits) ∧ Keep w w' No) := by
  obtain ⟨A, cp, us, rfl, hlr, hcp⟩ := id hl
  refine ok37 _ _ _ _ ?_
  unfold sh37
  have hl1 := hlr.mono (D' := fun b => b < w.heap.size) (fun b hb _ => hb)
  refine M.loop_i (σ := Nat) (fun i vals w' => ∃ vo us', vals = [vo, vi i] ∧ i ≤ l.length ∧ OL w w' vo us' (dropL (l.take i) lits) ∧ Keep w w' No) (fun i => l.length - i) 0
    ⟨_, [], rfl, by omega, OL.nil _ _, Keep.refl _ _⟩ ?_
  rintro i vals w4 K ⟨vo, us', rfl, hi, ho, k4⟩ hK _
  simp only [List.getD_cons_zero, List.getD_cons_succ]
  have hl4 := hl1.keep k4 (fun _ _ _ h => h)
  have hp4 := hp.keep k4 (fun _ _ _ h => h)
  have q4 := k4.size
  by_cases hlt : i < l.length
  · obtain ⟨c, hc⟩ : ∃ c, l[i]? = some c := ⟨_, List.getElem?_eq_getElem hlt⟩
    have hcm := List.mem_of_getElem? hc
    have hfcc := hfc c hcm
    have e1 := dropL_snoc (l.take i) c lits
    rw [← take_snoc hc] at e1
    (repeat (first | refine M.len_i ?_ | refine M.nilCheck_i ?_ | refine M.field_i ?_ | refine M.draw_i ?_ | refine M.cap_i ?_ | refine M.gd_tt ?_ | refine M.gd_ff ?_ | refine M.gd_ft ?_ | refine M.gd_tf ?_ | refine M.gd_u ?_ | refine M.pick_t ?_ | refine M.pick_f ?_ | refine M.not_t ?_ | refine M.not_f ?_ | refine M.cond_t ?_ | refine M.cond_f ?_ | refine M.eqNilP_tn ?_ | refine M.eqNilP_ts ?_ | refine M.eqNilP_fn ?_ | refine M.eqNilP_fs ?_ | refine M.eqNilS_tn ?_ | refine M.eqNilS_ts ?_ | refine M.eqNilS_fn ?_ | refine M.eqNilS_fs ?_ | refine M.lss_t (by omega) ?_ | refine M.lss_f (by omega) ?_ | refine M.leq_t (by omega) ?_ | refine M.leq_f (by omega) ?_ | refine M.gtr_t (by omega) ?_ | refine M.gtr_f (by omega) ?_ | refine M.geq_t (by omega) ?_ | refine M.geq_f (by omega) ?_ | refine M.eql_t (by omega) ?_ | refine M.eql_f (by omega) ?_ | refine M.neq_t (by omega) ?_ | refine M.neq_f (by omega) ?_ | refine M.add_i (by omega) (by omega) ?_ | refine M.sub_i (by omega) (by omega) ?_ | refine M.load_i (by assumption) ?_ | refine M.loadB_i (by assumption) rfl ?_ | refine M.st_i (by assumption) ?_ | refine M.stB_i (by assumption) rfl ?_ | refine M.gs_ff ?_ | refine M.gs_tt ?_ | refine M.gs_ft ?_ | refine M.gs_tf ?_ | refine M.stAll_i (by assumption) rfl ?_))
    refine M.share_j (fun vals w' => ∃ vo us', vals = [vo] ∧ OL w w' vo us' (dropL (l.take (i + 1)) lits) ∧ Keep w w' No) ?_ ?_
    · rintro vals w5 ⟨vo, us', rfl, ho, k5⟩ _
      simp only [List.getD_cons_zero, List.getD_cons_succ]
      (repeat (first | refine M.len_i ?_ | refine M.nilCheck_i ?_ | refine M.field_i ?_ | refine M.draw_i ?_ | refine M.cap_i ?_ | refine M.gd_tt ?_ | refine M.gd_ff ?_ | refine M.gd_ft ?_ | refine M.gd_tf ?_ | refine M.gd_u ?_ | refine M.pick_t ?_ | refine M.pick_f ?_ | refine M.not_t ?_ | refine M.not_f ?_ | refine M.cond_t ?_ | refine M.cond_f ?_ | refine M.eqNilP_tn ?_ | refine M.eqNilP_ts ?_ | refine M.eqNilP_fn ?_ | refine M.eqNilP_fs ?_ | refine M.eqNilS_tn ?_ | refine M.eqNilS_ts ?_ | refine M.eqNilS_fn ?_ | refine M.eqNilS_fs ?_ | refine M.lss_t (by omega) ?_ | refine M.lss_f (by omega) ?_ | refine M.leq_t (by omega) ?_ | refine M.leq_f (by omega) ?_ | refine M.gtr_t (by omega) ?_ | refine M.gtr_f (by omega) ?_ | refine M.geq_t (by omega) ?_ | refine M.geq_f (by omega) ?_ | refine M.eql_t (by omega) ?_ | refine M.eql_f (by omega) ?_ | refine M.neq_t (by omega) ?_ | refine M.neq_f (by omega) ?_ | refine M.add_i (by omega) (by omega) ?_ | refine M.sub_i (by omega) (by omega) ?_ | refine M.load_i (by assumption) ?_ | refine M.loadB_i (by assumption) rfl ?_ | refine M.st_i (by assumption) ?_ | refine M.stB_i (by assumption) rfl ?_ | refine M.gs_ff ?_ | refine M.gs_tt ?_ | refine M.gs_ft ?_ | refine M.gs_tf ?_ | refine M.stAll_i (by assumption) rfl ?_))
      exact hK (i + 1) _ _ (by omega) ⟨vo, us', by simp, by omega, ho, k5⟩
    · intro K2 hK2
      refine M.loop_i (σ := Nat) (fun j vals w' => vals = [vb ((c.take j).any (inB lits)), vi j] ∧ j ≤ c.length ∧ Keep w4 w' No) (fun j => c.length - j) 0
        ⟨rfl, by omega, Keep.refl _ _⟩ ?_
      rintro j vals w6 K3 ⟨rfl, hj, k6⟩ hK3 _
      simp only [List.getD_cons_zero, List.getD_cons_succ]
      have hl6 := hl4.keep k6 (fun _ _ _ h => h)
      have hp6 := hp4.keep k6 (fun _ _ _ h => h)
      have q6 := k6.size
      refine M.idxLL_i hl6 rfl (by omega) (c := c) (by simpa using hc) (fun bb oo x hcell hx => ?_)
      obtain ⟨A2, c2, rfl, hr2, hc2⟩ := id hx
      (repeat (first | refine M.len_i ?_ | refine M.nilCheck_i ?_ | refine M.field_i ?_ | refine M.draw_i ?_ | refine M.cap_i ?_ | refine M.gd_tt ?_ | refine M.gd_ff ?_ | refine M.gd_ft ?_ | refine M.gd_tf ?_ | refine M.gd_u ?_ | refine M.pick_t ?_ | refine M.pick_f ?_ | refine M.not_t ?_ | refine M.not_f ?_ | refine M.cond_t ?_ | refine M.cond_f ?_ | refine M.eqNilP_tn ?_ | refine M.eqNilP_ts ?_ | refine M.eqNilP_fn ?_ | refine M.eqNilP_fs ?_ | refine M.eqNilS_tn ?_ | refine M.eqNilS_ts ?_ | refine M.eqNilS_fn ?_ | refine M.eqNilS_fs ?_ | refine M.lss_t (by omega) ?_ | refine M.lss_f (by omega) ?_ | refine M.leq_t (by omega) ?_ | refine M.leq_f (by omega) ?_ | refine M.gtr_t (by omega) ?_ | refine M.gtr_f (by omega) ?_ | refine M.geq_t (by omega) ?_ | refine M.geq_f (by omega) ?_ | refine M.eql_t (by omega) ?_ | refine M.eql_f (by omega) ?_ | refine M.neq_t (by omega) ?_ | refine M.neq_f (by omega) ?_ | refine M.add_i (by omega) (by omega) ?_ | refine M.sub_i (by omega) (by omega) ?_ | refine M.load_i (by assumption) ?_ | refine M.loadB_i (by assumption) rfl ?_ | refine M.st_i (by assumption) ?_ | refine M.stB_i (by assumption) rfl ?_ | refine M.gs_ff ?_ | refine M.gs_tt ?_ | refine M.gs_ft ?_ | refine M.gs_tf ?_ | refine M.stAll_i (by assumption) rfl ?_))
      by_cases hjl : j < c.length
      · obtain ⟨y, hy⟩ : ∃ y, c[j]? = some y := ⟨_, List.getElem?_eq_getElem hjl⟩
        have e3 := any_take (p := inB lits) hy
        cases hba : (c.take j).any (inB lits) with
        | true =>
          rw [hba] at e3
          (repeat (first | refine M.len_i ?_ | refine M.nilCheck_i ?_ | refine M.field_i ?_ | refine M.draw_i ?_ | refine M.cap_i ?_ | refine M.gd_tt ?_ | refine M.gd_ff ?_ | refine M.gd_ft ?_ | refine M.gd_tf ?_ | refine M.gd_u ?_ | refine M.pick_t ?_ | refine M.pick_f ?_ | refine M.not_t ?_ | refine M.not_f ?_ | refine M.cond_t ?_ | refine M.cond_f ?_ | refine M.eqNilP_tn ?_ | refine M.eqNilP_ts ?_ | refine M.eqNilP_fn ?_ | refine M.eqNilP_fs ?_ | refine M.eqNilS_tn ?_ | refine M.eqNilS_ts ?_ | refine M.eqNilS_fn ?_ | refine M.eqNilS_fs ?_ | refine M.lss_t (by omega) ?_ | refine M.lss_f (by omega) ?_ | refine M.leq_t (by omega) ?_ | refine M.leq_f (by omega) ?_ | refine M.gtr_t (by omega) ?_ | refine M.gtr_f (by omega) ?_ | refine M.geq_t (by omega) ?_ | refine M.geq_f (by omega) ?_ | refine M.eql_t (by omega) ?_ | refine M.eql_f (by omega) ?_ | refine M.neq_t (by omega) ?_ | refine M.neq_f (by omega) ?_ | refine M.add_i (by omega) (by omega) ?_ | refine M.sub_i (by omega) (by omega) ?_ | refine M.load_i (by assumption) ?_ | refine M.loadB_i (by assumption) rfl ?_ | refine M.st_i (by assumption) ?_ | refine M.stB_i (by assumption) rfl ?_ | refine M.gs_ff ?_ | refine M.gs_tt ?_ | refine M.gs_ft ?_ | refine M.gs_tf ?_ | refine M.stAll_i (by assumption) rfl ?_))
          exact hK3 (j + 1) _ _ (by omega) ⟨by rw [e3]; rfl, by omega, k6⟩
        | false =>
          rw [hba] at e3
          (repeat (first | refine M.len_i ?_ | refine M.nilCheck_i ?_ | refine M.field_i ?_ | refine M.draw_i ?_ | refine M.cap_i ?_ | refine M.gd_tt ?_ | refine M.gd_ff ?_ | refine M.gd_ft ?_ | refine M.gd_tf ?_ | refine M.gd_u ?_ | refine M.pick_t ?_ | refine M.pick_f ?_ | refine M.not_t ?_ | refine M.not_f ?_ | refine M.cond_t ?_ | refine M.cond_f ?_ | refine M.eqNilP_tn ?_ | refine M.eqNilP_ts ?_ | refine M.eqNilP_fn ?_ | refine M.eqNilP_fs ?_ | refine M.eqNilS_tn ?_ | refine M.eqNilS_ts ?_ | refine M.eqNilS_fn ?_ | refine M.eqNilS_fs ?_ | refine M.lss_t (by omega) ?_ | refine M.lss_f (by omega) ?_ | refine M.leq_t (by omega) ?_ | refine M.leq_f (by omega) ?_ | refine M.gtr_t (by omega) ?_ | refine M.gtr_f (by omega) ?_ | refine M.geq_t (by omega) ?_ | refine M.geq_f (by omega) ?_ | refine M.eql_t (by omega) ?_ | refine M.eql_f (by omega) ?_ | refine M.neq_t (by omega) ?_ | refine M.neq_f (by omega) ?_ | refine M.add_i (by omega) (by omega) ?_ | refine M.sub_i (by omega) (by omega) ?_ | refine M.load_i (by assumption) ?_ | refine M.loadB_i (by assumption) rfl ?_ | refine M.st_i (by assumption) ?_ | refine M.stB_i (by assumption) rfl ?_ | refine M.gs_ff ?_ | refine M.gs_tt ?_ | refine M.gs_ft ?_ | refine M.gs_tf ?_ | refine M.stAll_i (by assumption) rfl ?_))
          refine M.idxLL_i hl6 rfl (by omega) (c := c) (by simpa using hc) (fun b9 o9 u9 hcell9 hu9 => ?_)
          obtain ⟨A9, c9, rfl, hr9, hc9⟩ := id hu9
          (repeat (first | refine M.len_i ?_ | refine M.nilCheck_i ?_ | refine M.field_i ?_ | refine M.draw_i ?_ | refine M.cap_i ?_ | refine M.gd_tt ?_ | refine M.gd_ff ?_ | refine M.gd_ft ?_ | refine M.gd_tf ?_ | refine M.gd_u ?_ | refine M.pick_t ?_ | refine M.pick_f ?_ | refine M.not_t ?_ | refine M.not_f ?_ | refine M.cond_t ?_ | refine M.cond_f ?_ | refine M.eqNilP_tn ?_ | refine M.eqNilP_ts ?_ | refine M.eqNilP_fn ?_ | refine M.eqNilP_fs ?_ | refine M.eqNilS_tn ?_ | refine M.eqNilS_ts ?_ | refine M.eqNilS_fn ?_ | refine M.eqNilS_fs ?_ | refine M.lss_t (by omega) ?_ | refine M.lss_f (by omega) ?_ | refine M.leq_t (by omega) ?_ | refine M.leq_f (by omega) ?_ | refine M.gtr_t (by omega) ?_ | refine M.gtr_f (by omega) ?_ | refine M.geq_t (by omega) ?_ | refine M.geq_f (by omega) ?_ | refine M.eql_t (by omega) ?_ | refine M.eql_f (by omega) ?_ | refine M.neq_t (by omega) ?_ | refine M.neq_f (by omega) ?_ | refine M.add_i (by omega) (by omega) ?_ | refine M.sub_i (by omega) (by omega) ?_ | refine M.load_i (by assumption) ?_ | refine M.loadB_i (by assumption) rfl ?_ | refine M.st_i (by assumption) ?_ | refine M.stB_i (by assumption) rfl ?_ | refine M.gs_ff ?_ | refine M.gs_tt ?_ | refine M.gs_ft ?_ | refine M.gs_tf ?_ | refine M.stAll_i (by assumption) rfl ?_))
          refine M.idxLV_i hr9 rfl (by omega) (by omega) (x := y) (by simpa using hy) (fun bb oo hA hcc => ?_)
          (repeat (first | refine M.len_i ?_ | refine M.nilCheck_i ?_ | refine M.field_i ?_ | refine M.draw_i ?_ | refine M.cap_i ?_ | refine M.gd_tt ?_ | refine M.gd_ff ?_ | refine M.gd_ft ?_ | refine M.gd_tf ?_ | refine M.gd_u ?_ | refine M.pick_t ?_ | refine M.pick_f ?_ | refine M.not_t ?_ | refine M.not_f ?_ | refine M.cond_t ?_ | refine M.cond_f ?_ | refine M.eqNilP_tn ?_ | refine M.eqNilP_ts ?_ | refine M.eqNilP_fn ?_ | refine M.eqNilP_fs ?_ | refine M.eqNilS_tn ?_ | refine M.eqNilS_ts ?_ | refine M.eqNilS_fn ?_ | refine M.eqNilS_fs ?_ | refine M.lss_t (by omega) ?_ | refine M.lss_f (by omega) ?_ | refine M.leq_t (by omega) ?_ | refine M.leq_f (by omega) ?_ | refine M.gtr_t (by omega) ?_ | refine M.gtr_f (by omega) ?_ | refine M.geq_t (by omega) ?_ | refine M.geq_f (by omega) ?_ | refine M.eql_t (by omega) ?_ | refine M.eql_f (by omega) ?_ | refine M.neq_t (by omega) ?_ | refine M.neq_f (by omega) ?_ | refine M.add_i (by omega) (by omega) ?_ | refine M.sub_i (by omega) (by omega) ?_ | refine M.load_i (by assumption) ?_ | refine M.loadB_i (by assumption) rfl ?_ | refine M.st_i (by assumption) ?_ | refine M.stB_i (by assumption) rfl ?_ | refine M.gs_ff ?_ | refine M.gs_tt ?_ | refine M.gs_ft ?_ | refine M.gs_tf ?_ | refine M.stAll_i (by assumption) rfl ?_))
          refine M.call_i (has_ret hp6 hf y) ?_; rintro _ w7 ⟨rfl, k7⟩
          (repeat (first | refine M.len_i ?_ | refine M.nilCheck_i ?_ | refine M.field_i ?_ | refine M.draw_i ?_ | refine M.cap_i ?_ | refine M.gd_tt ?_ | refine M.gd_ff ?_ | refine M.gd_ft ?_ | refine M.gd_tf ?_ | refine M.gd_u ?_ | refine M.pick_t ?_ | refine M.pick_f ?_ | refine M.not_t ?_ | refine M.not_f ?_ | refine M.cond_t ?_ | refine M.cond_f ?_ | refine M.eqNilP_tn ?_ | refine M.eqNilP_ts ?_ | refine M.eqNilP_fn ?_ | refine M.eqNilP_fs ?_ | refine M.eqNilS_tn ?_ | refine M.eqNilS_ts ?_ | refine M.eqNilS_fn ?_ | refine M.eqNilS_fs ?_ | refine M.lss_t (by omega) ?_ | refine M.lss_f (by omega) ?_ | refine M.leq_t (by omega) ?_ | refine M.leq_f (by omega) ?_ | refine M.gtr_t (by omega) ?_ | refine M.gtr_f (by omega) ?_ | refine M.geq_t (by omega) ?_ | refine M.geq_f (by omega) ?_ | refine M.eql_t (by omega) ?_ | refine M.eql_f (by omega) ?_ | refine M.neq_t (by omega) ?_ | refine M.neq_f (by omega) ?_ | refine M.add_i (by omega) (by omega) ?_ | refine M.sub_i (by omega) (by omega) ?_ | refine M.load_i (by assumption) ?_ | refine M.loadB_i (by assumption) rfl ?_ | refine M.st_i (by assumption) ?_ | refine M.stB_i (by assumption) rfl ?_ | refine M.gs_ff ?_ | refine M.gs_tt ?_ | refine M.gs_ft ?_ | refine M.gs_tf ?_ | refine M.stAll_i (by assumption) rfl ?_))
          exact hK3 (j + 1) _ _ (by omega) ⟨by rw [e3]; rfl, by omega, k6.trans k7 (fun _ _ h => h)⟩
      · (repeat (first | refine M.len_i ?_ | refine M.nilCheck_i ?_ | refine M.field_i ?_ | refine M.draw_i ?_ | refine M.cap_i ?_ | refine M.gd_tt ?_ | refine M.gd_ff ?_ | refine M.gd_ft ?_ | refine M.gd_tf ?_ | refine M.gd_u ?_ | refine M.pick_t ?_ | refine M.pick_f ?_ | refine M.not_t ?_ | refine M.not_f ?_ | refine M.cond_t ?_ | refine M.cond_f ?_ | refine M.eqNilP_tn ?_ | refine M.eqNilP_ts ?_ | refine M.eqNilP_fn ?_ | refine M.eqNilP_fs ?_ | refine M.eqNilS_tn ?_ | refine M.eqNilS_ts ?_ | refine M.eqNilS_fn ?_ | refine M.eqNilS_fs ?_ | refine M.lss_t (by omega) ?_ | refine M.lss_f (by omega) ?_ | refine M.leq_t (by omega) ?_ | refine M.leq_f (by omega) ?_ | refine M.gtr_t (by omega) ?_ | refine M.gtr_f (by omega) ?_ | refine M.geq_t (by omega) ?_ | refine M.geq_f (by omega) ?_ | refine M.eql_t (by omega) ?_ | refine M.eql_f (by omega) ?_ | refine M.neq_t (by omega) ?_ | refine M.neq_f (by omega) ?_ | refine M.add_i (by omega) (by omega) ?_ | refine M.sub_i (by omega) (by omega) ?_ | refine M.load_i (by assumption) ?_ | refine M.loadB_i (by assumption) rfl ?_ | refine M.st_i (by assumption) ?_ | refine M.stB_i (by assumption) rfl ?_ | refine M.gs_ff ?_ | refine M.gs_tt ?_ | refine M.gs_ft ?_ | refine M.gs_tf ?_ | refine M.stAll_i (by assumption) rfl ?_))
        have : j = c.length := by omega
        subst this
        rw [List.take_length]
        refine M.not_i ?_
        have k46 := k4.trans k6 (fun _ _ h => h)
        cases hb : c.any (inB lits) with
        | true =>
          rw [hb] at e1
          simp only [if_true, List.append_nil] at e1
          (repeat (first | refine M.len_i ?_ | refine M.nilCheck_i ?_ | refine M.field_i ?_ | refine M.draw_i ?_ | refine M.cap_i ?_ | refine M.gd_tt ?_ | refine M.gd_ff ?_ | refine M.gd_ft ?_ | refine M.gd_tf ?_ | refine M.gd_u ?_ | refine M.pick_t ?_ | refine M.pick_f ?_ | refine M.not_t ?_ | refine M.not_f ?_ | refine M.cond_t ?_ | refine M.cond_f ?_ | refine M.eqNilP_tn ?_ | refine M.eqNilP_ts ?_ | refine M.eqNilP_fn ?_ | refine M.eqNilP_fs ?_ | refine M.eqNilS_tn ?_ | refine M.eqNilS_ts ?_ | refine M.eqNilS_fn ?_ | refine M.eqNilS_fs ?_ | refine M.lss_t (by omega) ?_ | refine M.lss_f (by omega) ?_ | refine M.leq_t (by omega) ?_ | refine M.leq_f (by omega) ?_ | refine M.gtr_t (by omega) ?_ | refine M.gtr_f (by omega) ?_ | refine M.geq_t (by omega) ?_ | refine M.geq_f (by omega) ?_ | refine M.eql_t (by omega) ?_ | refine M.eql_f (by omega) ?_ | refine M.neq_t (by omega) ?_ | refine M.neq_f (by omega) ?_ | refine M.add_i (by omega) (by omega) ?_ | refine M.sub_i (by omega) (by omega) ?_ | refine M.load_i (by assumption) ?_ | refine M.loadB_i (by assumption) rfl ?_ | refine M.st_i (by assumption) ?_ | refine M.stB_i (by assumption) rfl ?_ | refine M.gs_ff ?_ | refine M.gs_tt ?_ | refine M.gs_ft ?_ | refine M.gs_tf ?_ | refine M.stAll_i (by assumption) rfl ?_))
          exact hK2 _ _ ⟨vo, us', rfl, e1 ▸ ho.keep k6, k46⟩
        | false =>
          rw [hb] at e1
          simp only [Bool.false_eq_true, if_false] at e1
          (repeat (first | refine M.len_i ?_ | refine M.nilCheck_i ?_ | refine M.field_i ?_ | refine M.draw_i ?_ | refine M.cap_i ?_ | refine M.gd_tt ?_ | refine M.gd_ff ?_ | refine M.gd_ft ?_ | refine M.gd_tf ?_ | refine M.gd_u ?_ | refine M.pick_t ?_ | refine M.pick_f ?_ | refine M.not_t ?_ | refine M.not_f ?_ | refine M.cond_t ?_ | refine M.cond_f ?_ | refine M.eqNilP_tn ?_ | refine M.eqNilP_ts ?_ | refine M.eqNilP_fn ?_ | refine M.eqNilP_fs ?_ | refine M.eqNilS_tn ?_ | refine M.eqNilS_ts ?_ | refine M.eqNilS_fn ?_ | refine M.eqNilS_fs ?_ | refine M.lss_t (by omega) ?_ | refine M.lss_f (by omega) ?_ | refine M.leq_t (by omega) ?_ | refine M.leq_f (by omega) ?_ | refine M.gtr_t (by omega) ?_ | refine M.gtr_f (by omega) ?_ | refine M.geq_t (by omega) ?_ | refine M.geq_f (by omega) ?_ | refine M.eql_t (by omega) ?_ | refine M.eql_f (by omega) ?_ | refine M.neq_t (by omega) ?_ | refine M.neq_f (by omega) ?_ | refine M.add_i (by omega) (by omega) ?_ | refine M.sub_i (by omega) (by omega) ?_ | refine M.load_i (by assumption) ?_ | refine M.loadB_i (by assumption) rfl ?_ | refine M.st_i (by assumption) ?_ | refine M.stB_i (by assumption) rfl ?_ | refine M.gs_ff ?_ | refine M.gs_tt ?_ | refine M.gs_ft ?_ | refine M.gs_tf ?_ | refine M.stAll_i (by assumption) rfl ?_))
          refine M.idxLL_i hl6 rfl (by omega) (c := c) (by simpa using hc) (fun b9 o9 u9 hcell9 hu9 => ?_)
          (repeat (first | refine M.len_i ?_ | refine M.nilCheck_i ?_ | refine M.field_i ?_ | refine M.draw_i ?_ | refine M.cap_i ?_ | refine M.gd_tt ?_ | refine M.gd_ff ?_ | refine M.gd_ft ?_ | refine M.gd_tf ?_ | refine M.gd_u ?_ | refine M.pick_t ?_ | refine M.pick_f ?_ | refine M.not_t ?_ | refine M.not_f ?_ | refine M.cond_t ?_ | refine M.cond_f ?_ | refine M.eqNilP_tn ?_ | refine M.eqNilP_ts ?_ | refine M.eqNilP_fn ?_ | refine M.eqNilP_fs ?_ | refine M.eqNilS_tn ?_ | refine M.eqNilS_ts ?_ | refine M.eqNilS_fn ?_ | refine M.eqNilS_fs ?_ | refine M.lss_t (by omega) ?_ | refine M.lss_f (by omega) ?_ | refine M.leq_t (by omega) ?_ | refine M.leq_f (by omega) ?_ | refine M.gtr_t (by omega) ?_ | refine M.gtr_f (by omega) ?_ | refine M.geq_t (by omega) ?_ | refine M.geq_f (by omega) ?_ | refine M.eql_t (by omega) ?_ | refine M.eql_f (by omega) ?_ | refine M.neq_t (by omega) ?_ | refine M.neq_f (by omega) ?_ | refine M.add_i (by omega) (by omega) ?_ | refine M.sub_i (by omega) (by omega) ?_ | refine M.load_i (by assumption) ?_ | refine M.loadB_i (by assumption) rfl ?_ | refine M.st_i (by assumption) ?_ | refine M.stB_i (by assumption) rfl ?_ | refine M.gs_ff ?_ | refine M.gs_tt ?_ | refine M.gs_ft ?_ | refine M.gs_tf ?_ | refine M.stAll_i (by assumption) rfl ?_))
          refine M.appendOL_i (ho.keep k6) (hu9.mono (fun b hb h h2 => by have := (ho.lt h2).1; omega)) (by omega) ?_ (fun v7 us7 w7 h7 k7 => ?_)
          · have := dropL_len (l.take i) lits
            rw [List.length_take] at this
            omega
          · exact hK2 _ _ ⟨v7, us7, rfl, e1 ▸ h7, k46.trans k7 (fun b hb h => by omega)⟩
  · (repeat (first | refine M.len_i ?_ | refine M.nilCheck_i ?_ | refine M.field_i ?_ | refine M.draw_i ?_ | refine M.cap_i ?_ | refine M.gd_tt ?_ | refine M.gd_ff ?_ | refine M.gd_ft ?_ | refine M.gd_tf ?_ | refine M.gd_u ?_ | refine M.pick_t ?_ | refine M.pick_f ?_ | refine M.not_t ?_ | refine M.not_f ?_ | refine M.cond_t ?_ | refine M.cond_f ?_ | refine M.eqNilP_tn ?_ | refine M.eqNilP_ts ?_ | refine M.eqNilP_fn ?_ | refine M.eqNilP_fs ?_ | refine M.eqNilS_tn ?_ | refine M.eqNilS_ts ?_ | refine M.eqNilS_fn ?_ | refine M.eqNilS_fs ?_ | refine M.lss_t (by omega) ?_ | refine M.lss_f (by omega) ?_ | refine M.leq_t (by omega) ?_ | refine M.leq_f (by omega) ?_ | refine M.gtr_t (by omega) ?_ | refine M.gtr_f (by omega) ?_ | refine M.geq_t (by omega) ?_ | refine M.geq_f (by omega) ?_ | refine M.eql_t (by omega) ?_ | refine M.eql_f (by omega) ?_ | refine M.neq_t (by omega) ?_ | refine M.neq_f (by omega) ?_ | refine M.add_i (by omega) (by omega) ?_ | refine M.sub_i (by omega) (by omega) ?_ | refine M.load_i (by assumption) ?_ | refine M.loadB_i (by assumption) rfl ?_ | refine M.st_i (by assumption) ?_ | refine M.stB_i (by assumption) rfl ?_ | refine M.gs_ff ?_ | refine M.gs_tt ?_ | refine M.gs_ft ?_ | refine M.gs_tf ?_ | refine M.stAll_i (by assumption) rfl ?_))
    have : i = l.length := by omega
    subst this
    rw [List.take_length] at ho
    exact ⟨ho.ll, k4⟩
end Go.Proofs.Ytfkbacoiocniaaa
