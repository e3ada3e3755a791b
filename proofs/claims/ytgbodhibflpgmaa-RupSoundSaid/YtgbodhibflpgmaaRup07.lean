import Derived.Test.YtgbodhibflpgmaaLaw06d
namespace Go.Proofs.Ytgbodhibflpgmaa
open Go.Mw
set_option linter.unusedVariables false
set_option linter.unusedSimpArgs false
set_option maxRecDepth 100000
attribute [local irreducible] M.val M.unit M.next M.pick M.new M.nilCheck M.load1 M.loadA M.store M.fieldAddr M.indexSl M.indexArr M.slice M.makeSlice M.buildSlice M.len M.lenS M.cap M.append M.extract M.conv M.not M.neg M.bin M.shift M.eqB M.eqNil M.call M.callv M.gd M.share M.cond M.loop M.draw pureW readW Ret
/-! breakwater/rup.step: function 73 -/
def sh73 (x0 x1 : Value) (R : Kt) (w : World) : Prop :=
  M.len x0 (fun t11 w =>
  M.makeSlice 3 1 8 #[.int .i64 0] t11 t11 (fun t12 w =>
  M.len x0 (fun t14 w =>
  M.loop [(Value.int IntKind.i64 0)] (fun s1 K1 w => ∀ _ : List Value,
  M.bin .lss (s1.getD 0 undef) t14 (fun t16 w =>
  M.cond t16
  (M.indexSl 1 x0 (s1.getD 0 undef) (fun t18 w =>
  M.load1 t18 (fun t19 w =>
  M.call Try.prog 104 #[t19] (fun t23 w =>
  M.indexSl 1 t12 (s1.getD 0 undef) (fun t24 w =>
  M.store 1 t24 t23 (fun _ w =>
  M.bin .add (s1.getD 0 undef) (Value.int IntKind.i64 1) (fun t25 w =>
  K1 [t25] w) w) w) w) w) w) w)
  (M.call Try.prog 28 #[x1, t12] (fun t29 w =>
  M.extract 0 t29 (fun t30 w =>
  M.extract 1 t29 (fun t31 w =>
  M.not t31 (fun t33 w =>
  R t33 w) w) w) w) w)) w) w) w) w) w
theorem ok73 (x0 x1 : Value) (R : Kt) (w : World) (h : sh73 x0 x1 R w) : Ret Try.prog 73 #[x0, x1] w R :=
  ret_mk <| calls_of_comp mixed (c := Try.f73.body.getD .skip) (args := [x0, x1]) (rs := [(ResultVar.tmp 4)]) (Ann.seq Ann.text (Ann.seq Ann.text (Ann.seq (Ann.seq Ann.text (Ann.block (Ann.loop [15] [6, 7, 16, 17, 18, 19, 20, 21, 22, 23, 24, 25] (Ann.seq Ann.text (Ann.seq (Ann.cond Ann.leaf Ann.leaf) (Ann.seq (Ann.block (Ann.seq Ann.text Ann.text)) Ann.text)))))) (Ann.seq Ann.text (Ann.seq Ann.text Ann.leaf)))))
    Try.func73 (by kernel_rfl) (by kernel_rfl)
    (Eq.mp (by kernel_rfl) h)
/-! breakwater/rup.Step: function 37 -/
def sh37 (x0 x1 : Value) (R : Kt) (w : World) : Prop :=
  M.call Try.prog 73 #[x1, x0] (fun t7 w =>
  R t7 w) w
theorem ok37 (x0 x1 : Value) (R : Kt) (w : World) (h : sh37 x0 x1 R w) : Ret Try.prog 37 #[x0, x1] w R :=
  ret_mk <| calls_of_comp mixed (c := Try.f37.body.getD .skip) (args := [x0, x1]) (rs := [(ResultVar.tmp 4)]) (Ann.seq Ann.text (Ann.seq Ann.text Ann.leaf))
    Try.func37 (by kernel_rfl) (by kernel_rfl)
    (Eq.mp (by kernel_rfl) h)
/-! slices.Clip[[][]int,[]int]: function 75 -/
def sh75 (x0 : Value) (R : Kt) (w : World) : Prop :=
  M.len x0 (fun t5 w =>
  M.len x0 (fun t7 w =>
  M.slice 1 x0 none (some t5) (some t7) (fun t8 w =>
  R t8 w) w) w) w
theorem ok75 (x0 : Value) (R : Kt) (w : World) (h : sh75 x0 R w) : Ret Try.prog 75 #[x0] w R :=
  ret_mk <| calls_of_comp mixed (c := Try.f75.body.getD .skip) (args := [x0]) (rs := [(ResultVar.tmp 2)]) (Ann.seq Ann.text (Ann.seq Ann.text Ann.leaf))
    Try.func75 (by kernel_rfl) (by kernel_rfl)
    (Eq.mp (by kernel_rfl) h)
/-! breakwater/rup.Check: function 39 -/
def sh39 (x0 x1 : Value) (R : Kt) (w : World) : Prop :=
  M.call Try.prog 75 #[x0] (fun t9 w =>
  M.len x1 (fun t11 w =>
  M.loop [t9, (Value.int IntKind.i64 0)] (fun s1 K1 w => ∀ _ : List Value,
  M.bin .lss (s1.getD 1 undef) t11 (fun t13 w =>
  M.cond t13
  (M.indexSl 1 x1 (s1.getD 1 undef) (fun t15 w =>
  M.load1 t15 (fun t16 w =>
  M.call Try.prog 73 #[t16, (s1.getD 0 undef)] (fun t19 w =>
  M.not t19 (fun t20 w =>
  M.cond t20
  (R (s1.getD 1 undef) w)
  (M.buildSlice 26 1 #[.slice none 0 0] 1 [(0, t16)] (fun t24 w =>
  M.append 26 1 24 #[.slice none 0 0] (s1.getD 0 undef) t24 (fun t25 w =>
  M.bin .add (s1.getD 1 undef) (Value.int IntKind.i64 1) (fun t26 w =>
  K1 [t25, t26] w) w) w) w)) w) w) w) w)
  (R (Value.int IntKind.i64 (-1)) w)) w) w) w) w
theorem ok39 (x0 x1 : Value) (R : Kt) (w : World) (h : sh39 x0 x1 R w) : Ret Try.prog 39 #[x0, x1] w R :=
  ret_mk <| calls_of_comp mixed (c := Try.f39.body.getD .skip) (args := [x0, x1]) (rs := [(ResultVar.tmp 4)]) (Ann.seq Ann.text (Ann.seq Ann.text (Ann.seq (Ann.seq Ann.text (Ann.block (Ann.loop [5, 12] [4, 6, 7, 13, 14, 15, 16, 17, 18, 19, 20, 21, 22, 23, 24, 25, 26] (Ann.seq Ann.text (Ann.seq (Ann.cond Ann.leaf Ann.leaf) (Ann.seq (Ann.block (Ann.seq Ann.text (Ann.seq (Ann.seq Ann.text (Ann.cond (Ann.seq Ann.text Ann.leaf) Ann.leaf)) Ann.text))) Ann.text)))))) (Ann.seq Ann.text Ann.leaf))))
    Try.func39 (by kernel_rfl) (by kernel_rfl)
    (Eq.mp (by kernel_rfl) h)
/-! breakwater/breakwaterref07.Step: function 38 -/
def sh38 (x0 x1 : Value) (R : Kt) (w : World) : Prop :=
  M.loop [(Value.slice none 0 0), (Value.int IntKind.i64 0)] (fun s1 K1 w => ∀ _ : List Value,
  M.len x1 (fun t11 w =>
  M.bin .lss (s1.getD 1 undef) t11 (fun t12 w =>
  M.cond t12
  (M.indexSl 1 x1 (s1.getD 1 undef) (fun t18 w =>
  M.load1 t18 (fun t19 w =>
  M.call Try.prog 74 #[t19] (fun t20 w =>
  M.buildSlice 3 1 #[.int .i64 0] 1 [(0, t20)] (fun t21 w =>
  M.append 3 1 8 #[.int .i64 0] (s1.getD 0 undef) t21 (fun t22 w =>
  M.bin .add (s1.getD 1 undef) (Value.int IntKind.i64 1) (fun t14 w =>
  K1 [t22, t14] w) w) w) w) w) w) w)
  (M.call Try.prog 29 #[x0, (s1.getD 0 undef)] (fun t26 w =>
  M.extract 0 t26 (fun t27 w =>
  M.extract 1 t26 (fun t28 w =>
  M.not t28 (fun t30 w =>
  R t30 w) w) w) w) w)) w) w) w
theorem ok38 (x0 x1 : Value) (R : Kt) (w : World) (h : sh38 x0 x1 R w) : Ret Try.prog 38 #[x0, x1] w R :=
  ret_mk <| calls_of_comp mixed (c := Try.f38.body.getD .skip) (args := [x0, x1]) (rs := [(ResultVar.tmp 4)]) (Ann.seq Ann.text (Ann.seq Ann.text (Ann.seq (Ann.seq Ann.text (Ann.block (Ann.loop [5, 6] [9, 10, 11, 12, 13, 14, 15, 16, 17, 18, 19, 20, 21, 22] (Ann.seq (Ann.seq Ann.text (Ann.cond Ann.leaf Ann.leaf)) (Ann.seq (Ann.block Ann.text) Ann.text))))) (Ann.seq Ann.text (Ann.seq Ann.text Ann.leaf)))))
    Try.func38 (by kernel_rfl) (by kernel_rfl)
    (Eq.mp (by kernel_rfl) h)
/-! breakwater/breakwaterref07.Check: function 40 -/
def sh40 (x0 x1 : Value) (R : Kt) (w : World) : Prop :=
  M.append 26 1 24 #[.slice none 0 0] (Value.slice none 0 0) x0 (fun t9 w =>
  M.loop [t9, (Value.int IntKind.i64 0)] (fun s1 K1 w => ∀ _ : List Value,
  M.len x1 (fun t12 w =>
  M.bin .lss (s1.getD 1 undef) t12 (fun t13 w =>
  M.cond t13
  (M.indexSl 1 x1 (s1.getD 1 undef) (fun t19 w =>
  M.load1 t19 (fun t20 w =>
  M.call Try.prog 38 #[(s1.getD 0 undef), t20] (fun t21 w =>
  M.not t21 (fun t22 w =>
  M.cond t22
  (R (s1.getD 1 undef) w)
  (M.indexSl 1 x1 (s1.getD 1 undef) (fun t27 w =>
  M.load1 t27 (fun t28 w =>
  M.buildSlice 26 1 #[.slice none 0 0] 1 [(0, t28)] (fun t29 w =>
  M.append 26 1 24 #[.slice none 0 0] (s1.getD 0 undef) t29 (fun t30 w =>
  M.bin .add (s1.getD 1 undef) (Value.int IntKind.i64 1) (fun t15 w =>
  K1 [t30, t15] w) w) w) w) w) w)) w) w) w) w)
  (R (Value.int IntKind.i64 (-1)) w)) w) w) w) w
theorem ok40 (x0 x1 : Value) (R : Kt) (w : World) (h : sh40 x0 x1 R w) : Ret Try.prog 40 #[x0, x1] w R :=
  ret_mk <| calls_of_comp mixed (c := Try.f40.body.getD .skip) (args := [x0, x1]) (rs := [(ResultVar.tmp 4)]) (Ann.seq Ann.text (Ann.seq Ann.text (Ann.seq Ann.text (Ann.seq (Ann.seq Ann.text (Ann.block (Ann.loop [5, 6] [4, 10, 11, 12, 13, 14, 15, 16, 17, 18, 19, 20, 21, 22, 23, 24, 25, 26, 27, 28, 29, 30] (Ann.seq (Ann.seq Ann.text (Ann.cond Ann.leaf Ann.leaf)) (Ann.seq (Ann.block (Ann.seq (Ann.seq Ann.text (Ann.cond (Ann.seq Ann.text Ann.leaf) Ann.leaf)) Ann.text)) Ann.text))))) (Ann.seq Ann.text Ann.leaf)))))
    Try.func40 (by kernel_rfl) (by kernel_rfl)
    (Eq.mp (by kernel_rfl) h)

theorem CloseR.bot_iff {l : List (List Int)} {set out : List Int} {k : Bool} (h : CloseR l set out k) : (!k) = true ↔ Bot l set := by
  rcases h with ⟨rfl, _, h3⟩ | ⟨rfl, h2, _, _⟩
  · simp [h3]
  · simp [h2]
/-- A clause follows at once. -/
def RupB (l : List (List Int)) (c : List Int) : Prop := Bot l (c.map notOf)
/-- What Check answers. -/
def CheckR (l proof : List (List Int)) (n : Int) : Prop := (n = -1 ∧ ∀ (i : Nat) c, proof[i]? = some c → RupB (l ++ proof.take i) c) ∨
  ∃ i : Nat, n = i ∧ (∀ (j : Nat) c, j < i → proof[j]? = some c → RupB (l ++ proof.take j) c) ∧ ∃ c, proof[i]? = some c ∧ ¬ RupB (l ++ proof.take i) c
theorem CheckR.uniq {l proof : List (List Int)} {n n' : Int} (h : CheckR l proof n) (h' : CheckR l proof n') : n = n' := by
  rcases h with ⟨rfl, h1⟩ | ⟨i, rfl, h1, c, h2, h3⟩ <;> rcases h' with ⟨rfl, g1⟩ | ⟨j, rfl, g1, d, g2, g3⟩
  · rfl
  · exact absurd (h1 j d g2) g3
  · exact absurd (g1 i c h2) h3
  · rcases Nat.lt_trichotomy i j with h | h | h
    · exact absurd (g1 i c h h2) h3
    · rw [h]
    · exact absurd (h1 j d h g2) g3
theorem FewL.nots {l : List (List Int)} {c : List Int} (h : (l.flatten).length + c.length ≤ 100000000) : FewL l (c.map notOf) := by
  unfold FewL
  rw [List.length_append, List.length_map]; exact h
theorem nots_i64 {c : List Int} (h : ∀ x ∈ c, I64 x) : ∀ x ∈ c.map notOf, I64 x := fun x hx => by
  obtain ⟨y, hy, rfl⟩ := List.mem_map.1 hx
  have := h y hy
  unfold notOf flip1
  split
  · exact this
  · split <;> exact ⟨by omega, by omega⟩
set_option maxHeartbeats 1000000 in
theorem rstep_ret {w : World} {D D' : Nat → Prop} {u v : Value} {l : List (List Int)} {c : List Int} (hl : LL w D u l) (hc : LV vi w D' v c) (hf : l.flatten.length + c.length ≤ 100000000) (hfl : Few l.length) (hI : ∀ c ∈ l, ∀ x ∈ c, I64 x) (hJ : ∀ x ∈ c, I64 x) :
    Ret Try.prog 73 #[v, u] w (fun r w' => ∃ b, r = .bool b ∧ (b = true ↔ RupB l c) ∧ Keep w w' No) := by
  obtain ⟨A, cp, rfl, hr, _⟩ := hc
  refine ok73 _ _ _ _ ?_
  unfold sh73
  (repeat (first | refine M.len_i ?_ | refine M.nilCheck_i ?_ | refine M.field_i ?_ | refine M.draw_i ?_ | refine M.cap_i ?_ | refine M.gd_tt ?_ | refine M.gd_ff ?_ | refine M.gd_ft ?_ | refine M.gd_tf ?_ | refine M.gd_u ?_ | refine M.pick_t ?_ | refine M.pick_f ?_ | refine M.not_t ?_ | refine M.not_f ?_ | refine M.cond_t ?_ | refine M.cond_f ?_ | refine M.eqNilP_tn ?_ | refine M.eqNilP_ts ?_ | refine M.eqNilP_fn ?_ | refine M.eqNilP_fs ?_ | refine M.eqNilS_tn ?_ | refine M.eqNilS_ts ?_ | refine M.eqNilS_fn ?_ | refine M.eqNilS_fs ?_ | refine M.lss_t (by omega) ?_ | refine M.lss_f (by omega) ?_ | refine M.leq_t (by omega) ?_ | refine M.leq_f (by omega) ?_ | refine M.gtr_t (by omega) ?_ | refine M.gtr_f (by omega) ?_ | refine M.geq_t (by omega) ?_ | refine M.geq_f (by omega) ?_ | refine M.eql_t (by omega) ?_ | refine M.eql_f (by omega) ?_ | refine M.neq_t (by omega) ?_ | refine M.neq_f (by omega) ?_ | refine M.add_i (by omega) (by omega) ?_ | refine M.sub_i (by omega) (by omega) ?_ | refine M.load_i (by assumption) ?_ | refine M.loadB_i (by assumption) rfl ?_ | refine M.st_i (by assumption) ?_ | refine M.stB_i (by assumption) rfl ?_ | refine M.gs_ff ?_ | refine M.gs_tt ?_ | refine M.gs_ft ?_ | refine M.gs_tf ?_ | refine M.stAll_i (by assumption) rfl ?_))
  refine M.makeSlice_i rfl rfl (by omega) (by omega) (fun w1 hb k1 s1 => ?_)
  have g1 : GI w1 (w.heap.size ≤ ·) (slv w.heap.size c.length) (List.replicate c.length 0) := by
    have := GI.of_rep (x := 0) (L := fun b => w.heap.size ≤ b) hb (Nat.le_refl _)
    simpa using this
  have hr1 := hr.mono (D' := fun b => b < w.heap.size) (fun b hb _ => hb)
  (repeat (first | refine M.len_i ?_ | refine M.nilCheck_i ?_ | refine M.field_i ?_ | refine M.draw_i ?_ | refine M.cap_i ?_ | refine M.gd_tt ?_ | refine M.gd_ff ?_ | refine M.gd_ft ?_ | refine M.gd_tf ?_ | refine M.gd_u ?_ | refine M.pick_t ?_ | refine M.pick_f ?_ | refine M.not_t ?_ | refine M.not_f ?_ | refine M.cond_t ?_ | refine M.cond_f ?_ | refine M.eqNilP_tn ?_ | refine M.eqNilP_ts ?_ | refine M.eqNilP_fn ?_ | refine M.eqNilP_fs ?_ | refine M.eqNilS_tn ?_ | refine M.eqNilS_ts ?_ | refine M.eqNilS_fn ?_ | refine M.eqNilS_fs ?_ | refine M.lss_t (by omega) ?_ | refine M.lss_f (by omega) ?_ | refine M.leq_t (by omega) ?_ | refine M.leq_f (by omega) ?_ | refine M.gtr_t (by omega) ?_ | refine M.gtr_f (by omega) ?_ | refine M.geq_t (by omega) ?_ | refine M.geq_f (by omega) ?_ | refine M.eql_t (by omega) ?_ | refine M.eql_f (by omega) ?_ | refine M.neq_t (by omega) ?_ | refine M.neq_f (by omega) ?_ | refine M.add_i (by omega) (by omega) ?_ | refine M.sub_i (by omega) (by omega) ?_ | refine M.load_i (by assumption) ?_ | refine M.loadB_i (by assumption) rfl ?_ | refine M.st_i (by assumption) ?_ | refine M.stB_i (by assumption) rfl ?_ | refine M.gs_ff ?_ | refine M.gs_tt ?_ | refine M.gs_ft ?_ | refine M.gs_tf ?_ | refine M.stAll_i (by assumption) rfl ?_))
  refine M.loop_i (σ := Nat × List Int) (fun t vals w' => vals = [vi t.1] ∧ t.1 ≤ c.length ∧ t.2.length = c.length ∧ GI w' (w.heap.size ≤ ·) (slv w.heap.size c.length) t.2 ∧ t.2.take t.1 = (c.take t.1).map notOf ∧ Keep w w' No) (fun t => c.length - t.1) (0, List.replicate c.length 0)
    ⟨rfl, by show 0 ≤ c.length; omega, by simp, g1, by simp, k1⟩ ?_
  rintro ⟨i, ns⟩ vals w2 K ⟨rfl, hi, hln, g, ht, k2⟩ hK _
  simp only at hi hln g ht
  simp only [List.getD_cons_zero, List.getD_cons_succ]
  have hr2 := hr1.keep k2 (fun _ _ _ h => h)
  by_cases hlt : i < c.length
  · obtain ⟨x, hx⟩ : ∃ x, c[i]? = some x := ⟨_, List.getElem?_eq_getElem hlt⟩
    (repeat (first | refine M.len_i ?_ | refine M.nilCheck_i ?_ | refine M.field_i ?_ | refine M.draw_i ?_ | refine M.cap_i ?_ | refine M.gd_tt ?_ | refine M.gd_ff ?_ | refine M.gd_ft ?_ | refine M.gd_tf ?_ | refine M.gd_u ?_ | refine M.pick_t ?_ | refine M.pick_f ?_ | refine M.not_t ?_ | refine M.not_f ?_ | refine M.cond_t ?_ | refine M.cond_f ?_ | refine M.eqNilP_tn ?_ | refine M.eqNilP_ts ?_ | refine M.eqNilP_fn ?_ | refine M.eqNilP_fs ?_ | refine M.eqNilS_tn ?_ | refine M.eqNilS_ts ?_ | refine M.eqNilS_fn ?_ | refine M.eqNilS_fs ?_ | refine M.lss_t (by omega) ?_ | refine M.lss_f (by omega) ?_ | refine M.leq_t (by omega) ?_ | refine M.leq_f (by omega) ?_ | refine M.gtr_t (by omega) ?_ | refine M.gtr_f (by omega) ?_ | refine M.geq_t (by omega) ?_ | refine M.geq_f (by omega) ?_ | refine M.eql_t (by omega) ?_ | refine M.eql_f (by omega) ?_ | refine M.neq_t (by omega) ?_ | refine M.neq_f (by omega) ?_ | refine M.add_i (by omega) (by omega) ?_ | refine M.sub_i (by omega) (by omega) ?_ | refine M.load_i (by assumption) ?_ | refine M.loadB_i (by assumption) rfl ?_ | refine M.st_i (by assumption) ?_ | refine M.stB_i (by assumption) rfl ?_ | refine M.gs_ff ?_ | refine M.gs_tt ?_ | refine M.gs_ft ?_ | refine M.gs_tf ?_ | refine M.stAll_i (by assumption) rfl ?_))
    refine M.idxLV_i hr2 rfl (by omega) (by omega) (x := x) (by simpa using hx) (fun bb oo hA hcc => ?_)
    (repeat (first | refine M.len_i ?_ | refine M.nilCheck_i ?_ | refine M.field_i ?_ | refine M.draw_i ?_ | refine M.cap_i ?_ | refine M.gd_tt ?_ | refine M.gd_ff ?_ | refine M.gd_ft ?_ | refine M.gd_tf ?_ | refine M.gd_u ?_ | refine M.pick_t ?_ | refine M.pick_f ?_ | refine M.not_t ?_ | refine M.not_f ?_ | refine M.cond_t ?_ | refine M.cond_f ?_ | refine M.eqNilP_tn ?_ | refine M.eqNilP_ts ?_ | refine M.eqNilP_fn ?_ | refine M.eqNilP_fs ?_ | refine M.eqNilS_tn ?_ | refine M.eqNilS_ts ?_ | refine M.eqNilS_fn ?_ | refine M.eqNilS_fs ?_ | refine M.lss_t (by omega) ?_ | refine M.lss_f (by omega) ?_ | refine M.leq_t (by omega) ?_ | refine M.leq_f (by omega) ?_ | refine M.gtr_t (by omega) ?_ | refine M.gtr_f (by omega) ?_ | refine M.geq_t (by omega) ?_ | refine M.geq_f (by omega) ?_ | refine M.eql_t (by omega) ?_ | refine M.eql_f (by omega) ?_ | refine M.neq_t (by omega) ?_ | refine M.neq_f (by omega) ?_ | refine M.add_i (by omega) (by omega) ?_ | refine M.sub_i (by omega) (by omega) ?_ | refine M.load_i (by assumption) ?_ | refine M.loadB_i (by assumption) rfl ?_ | refine M.st_i (by assumption) ?_ | refine M.stB_i (by assumption) rfl ?_ | refine M.gs_ff ?_ | refine M.gs_tt ?_ | refine M.gs_ft ?_ | refine M.gs_tf ?_ | refine M.stAll_i (by assumption) rfl ?_))
    refine M.call_i (not_ret (hJ x (List.mem_of_getElem? hx)) w2) ?_; rintro _ w3 ⟨rfl, k3⟩
    refine M.idxStore_i (g.keep k3 (fun _ _ _ h => h)) (by omega) (by omega) (fun w4 g4 k4 s4 => ?_)
    (repeat (first | refine M.len_i ?_ | refine M.nilCheck_i ?_ | refine M.field_i ?_ | refine M.draw_i ?_ | refine M.cap_i ?_ | refine M.gd_tt ?_ | refine M.gd_ff ?_ | refine M.gd_ft ?_ | refine M.gd_tf ?_ | refine M.gd_u ?_ | refine M.pick_t ?_ | refine M.pick_f ?_ | refine M.not_t ?_ | refine M.not_f ?_ | refine M.cond_t ?_ | refine M.cond_f ?_ | refine M.eqNilP_tn ?_ | refine M.eqNilP_ts ?_ | refine M.eqNilP_fn ?_ | refine M.eqNilP_fs ?_ | refine M.eqNilS_tn ?_ | refine M.eqNilS_ts ?_ | refine M.eqNilS_fn ?_ | refine M.eqNilS_fs ?_ | refine M.lss_t (by omega) ?_ | refine M.lss_f (by omega) ?_ | refine M.leq_t (by omega) ?_ | refine M.leq_f (by omega) ?_ | refine M.gtr_t (by omega) ?_ | refine M.gtr_f (by omega) ?_ | refine M.geq_t (by omega) ?_ | refine M.geq_f (by omega) ?_ | refine M.eql_t (by omega) ?_ | refine M.eql_f (by omega) ?_ | refine M.neq_t (by omega) ?_ | refine M.neq_f (by omega) ?_ | refine M.add_i (by omega) (by omega) ?_ | refine M.sub_i (by omega) (by omega) ?_ | refine M.load_i (by assumption) ?_ | refine M.loadB_i (by assumption) rfl ?_ | refine M.st_i (by assumption) ?_ | refine M.stB_i (by assumption) rfl ?_ | refine M.gs_ff ?_ | refine M.gs_tt ?_ | refine M.gs_ft ?_ | refine M.gs_tf ?_ | refine M.stAll_i (by assumption) rfl ?_))
    rw [Int.toNat_natCast] at g4
    refine hK (i + 1, ns.set i (notOf x)) _ _ (by show c.length - (i + 1) < c.length - i; omega) ⟨by simp, by show i + 1 ≤ c.length; omega, by simpa using hln, g4, ?_, (k2.trans k3 (fun _ _ h => h)).trans k4 (fun b hb h => by omega)⟩
    show (ns.set i (notOf x)).take (i + 1) = (c.take (i + 1)).map notOf
    rw [set_take _ (by omega), ht, List.take_add_one, hx]
    simp
  · (repeat (first | refine M.len_i ?_ | refine M.nilCheck_i ?_ | refine M.field_i ?_ | refine M.draw_i ?_ | refine M.cap_i ?_ | refine M.gd_tt ?_ | refine M.gd_ff ?_ | refine M.gd_ft ?_ | refine M.gd_tf ?_ | refine M.gd_u ?_ | refine M.pick_t ?_ | refine M.pick_f ?_ | refine M.not_t ?_ | refine M.not_f ?_ | refine M.cond_t ?_ | refine M.cond_f ?_ | refine M.eqNilP_tn ?_ | refine M.eqNilP_ts ?_ | refine M.eqNilP_fn ?_ | refine M.eqNilP_fs ?_ | refine M.eqNilS_tn ?_ | refine M.eqNilS_ts ?_ | refine M.eqNilS_fn ?_ | refine M.eqNilS_fs ?_ | refine M.lss_t (by omega) ?_ | refine M.lss_f (by omega) ?_ | refine M.leq_t (by omega) ?_ | refine M.leq_f (by omega) ?_ | refine M.gtr_t (by omega) ?_ | refine M.gtr_f (by omega) ?_ | refine M.geq_t (by omega) ?_ | refine M.geq_f (by omega) ?_ | refine M.eql_t (by omega) ?_ | refine M.eql_f (by omega) ?_ | refine M.neq_t (by omega) ?_ | refine M.neq_f (by omega) ?_ | refine M.add_i (by omega) (by omega) ?_ | refine M.sub_i (by omega) (by omega) ?_ | refine M.load_i (by assumption) ?_ | refine M.loadB_i (by assumption) rfl ?_ | refine M.st_i (by assumption) ?_ | refine M.stB_i (by assumption) rfl ?_ | refine M.gs_ff ?_ | refine M.gs_tt ?_ | refine M.gs_ft ?_ | refine M.gs_tf ?_ | refine M.stAll_i (by assumption) rfl ?_))
    have : i = c.length := by omega
    subst this
    have e : ns = c.map notOf := by rw [List.take_length, ← hln, List.take_length] at ht; exact ht
    subst e
    have hns : FewL l (c.map notOf) := FewL.nots hf
    refine M.call_i (close_ret (hl.keep k2 (fun _ _ _ h => h)) (GI.lv (by simpa using g)) hns hfl hI (nots_i64 hJ)) ?_; rintro _ w3 ⟨o3, out, k, rfl, hR, g3, k3⟩
    refine M.extract_i rfl ?_
    refine M.extract_i rfl ?_
    refine M.not_i ⟨!k, rfl, hR.bot_iff, k2.trans k3 (fun _ _ h => h)⟩
theorem step_ret {w : World} {D D' : Nat → Prop} {u v : Value} {l : List (List Int)} {c : List Int} (hl : LL w D u l) (hc : LV vi w D' v c) (hf : l.flatten.length + c.length ≤ 100000000) (hfl : Few l.length) (hI : ∀ c ∈ l, ∀ x ∈ c, I64 x) (hJ : ∀ x ∈ c, I64 x) :
    Ret Try.prog 37 #[u, v] w (fun r w' => ∃ b, r = .bool b ∧ (b = true ↔ RupB l c) ∧ Keep w w' No) := by
  refine ok37 _ _ _ _ ?_
  unfold sh37
  refine M.call_i (rstep_ret hl hc hf hfl hI hJ) ?_; rintro _ w1 ⟨b, rfl, hb, k1⟩
  exact ⟨b, rfl, hb, k1⟩
set_option maxHeartbeats 1000000 in
theorem rfstep_ret {w : World} {D D' : Nat → Prop} {u v : Value} {l : List (List Int)} {c : List Int} (hl : LL w D u l) (hc : LV vi w D' v c) (hf : l.flatten.length + c.length ≤ 100000000) (hfl : Few l.length) (hI : ∀ c ∈ l, ∀ x ∈ c, I64 x) (hJ : ∀ x ∈ c, I64 x) :
    Ret Try.prog 38 #[u, v] w (fun r w' => ∃ b, r = .bool b ∧ (b = true ↔ RupB l c) ∧ Keep w w' No) := by
  obtain ⟨A, cp, rfl, hr, _⟩ := hc
  refine ok38 _ _ _ _ ?_
  unfold sh38
  have hr1 := hr.mono (D' := fun b => b < w.heap.size) (fun b hb _ => hb)
  refine M.loop_i (σ := Nat) (fun i vals w' => ∃ vo, vals = [vo, vi i] ∧ i ≤ c.length ∧ GI w' (w.heap.size ≤ ·) vo ((c.take i).map notOf) ∧ Keep w w' No) (fun i => c.length - i) 0
    ⟨_, rfl, by omega, by simpa using GI.nil _ _, Keep.refl _ _⟩ ?_
  rintro i vals w2 K ⟨vo, rfl, hi, g, k2⟩ hK _
  simp only [List.getD_cons_zero, List.getD_cons_succ]
  have hr2 := hr1.keep k2 (fun _ _ _ h => h)
  have q2 := k2.size
  by_cases hlt : i < c.length
  · obtain ⟨x, hx⟩ : ∃ x, c[i]? = some x := ⟨_, List.getElem?_eq_getElem hlt⟩
    (repeat (first | refine M.len_i ?_ | refine M.nilCheck_i ?_ | refine M.field_i ?_ | refine M.draw_i ?_ | refine M.cap_i ?_ | refine M.gd_tt ?_ | refine M.gd_ff ?_ | refine M.gd_ft ?_ | refine M.gd_tf ?_ | refine M.gd_u ?_ | refine M.pick_t ?_ | refine M.pick_f ?_ | refine M.not_t ?_ | refine M.not_f ?_ | refine M.cond_t ?_ | refine M.cond_f ?_ | refine M.eqNilP_tn ?_ | refine M.eqNilP_ts ?_ | refine M.eqNilP_fn ?_ | refine M.eqNilP_fs ?_ | refine M.eqNilS_tn ?_ | refine M.eqNilS_ts ?_ | refine M.eqNilS_fn ?_ | refine M.eqNilS_fs ?_ | refine M.lss_t (by omega) ?_ | refine M.lss_f (by omega) ?_ | refine M.leq_t (by omega) ?_ | refine M.leq_f (by omega) ?_ | refine M.gtr_t (by omega) ?_ | refine M.gtr_f (by omega) ?_ | refine M.geq_t (by omega) ?_ | refine M.geq_f (by omega) ?_ | refine M.eql_t (by omega) ?_ | refine M.eql_f (by omega) ?_ | refine M.neq_t (by omega) ?_ | refine M.neq_f (by omega) ?_ | refine M.add_i (by omega) (by omega) ?_ | refine M.sub_i (by omega) (by omega) ?_ | refine M.load_i (by assumption) ?_ | refine M.loadB_i (by assumption) rfl ?_ | refine M.st_i (by assumption) ?_ | refine M.stB_i (by assumption) rfl ?_ | refine M.gs_ff ?_ | refine M.gs_tt ?_ | refine M.gs_ft ?_ | refine M.gs_tf ?_ | refine M.stAll_i (by assumption) rfl ?_))
    refine M.idxLV_i hr2 rfl (by omega) (by omega) (x := x) (by simpa using hx) (fun bb oo hA hcc => ?_)
    (repeat (first | refine M.len_i ?_ | refine M.nilCheck_i ?_ | refine M.field_i ?_ | refine M.draw_i ?_ | refine M.cap_i ?_ | refine M.gd_tt ?_ | refine M.gd_ff ?_ | refine M.gd_ft ?_ | refine M.gd_tf ?_ | refine M.gd_u ?_ | refine M.pick_t ?_ | refine M.pick_f ?_ | refine M.not_t ?_ | refine M.not_f ?_ | refine M.cond_t ?_ | refine M.cond_f ?_ | refine M.eqNilP_tn ?_ | refine M.eqNilP_ts ?_ | refine M.eqNilP_fn ?_ | refine M.eqNilP_fs ?_ | refine M.eqNilS_tn ?_ | refine M.eqNilS_ts ?_ | refine M.eqNilS_fn ?_ | refine M.eqNilS_fs ?_ | refine M.lss_t (by omega) ?_ | refine M.lss_f (by omega) ?_ | refine M.leq_t (by omega) ?_ | refine M.leq_f (by omega) ?_ | refine M.gtr_t (by omega) ?_ | refine M.gtr_f (by omega) ?_ | refine M.geq_t (by omega) ?_ | refine M.geq_f (by omega) ?_ | refine M.eql_t (by omega) ?_ | refine M.eql_f (by omega) ?_ | refine M.neq_t (by omega) ?_ | refine M.neq_f (by omega) ?_ | refine M.add_i (by omega) (by omega) ?_ | refine M.sub_i (by omega) (by omega) ?_ | refine M.load_i (by assumption) ?_ | refine M.loadB_i (by assumption) rfl ?_ | refine M.st_i (by assumption) ?_ | refine M.stB_i (by assumption) rfl ?_ | refine M.gs_ff ?_ | refine M.gs_tt ?_ | refine M.gs_ft ?_ | refine M.gs_tf ?_ | refine M.stAll_i (by assumption) rfl ?_))
    refine M.call_i (rnot_ret (hJ x (List.mem_of_getElem? hx)) w2) ?_; rintro _ w3 ⟨rfl, k3⟩
    refine M.buildSlice_i [vi (notOf x)] (by kernel_rfl) (fun w4 b4 k4 s4 => ?_)
    have g4 := (g.keep k3 (fun _ _ _ h => h)).keep k4 (fun _ _ _ h => h)
    refine M.append1_i g4 (Row.of_blk' (D := fun _ => True) b4 trivial) rfl (by simp; omega) (fun v5 w5 g5 k5 => ?_)
    have q3 := k3.size; have q4 := k4.size
    (repeat (first | refine M.len_i ?_ | refine M.nilCheck_i ?_ | refine M.field_i ?_ | refine M.draw_i ?_ | refine M.cap_i ?_ | refine M.gd_tt ?_ | refine M.gd_ff ?_ | refine M.gd_ft ?_ | refine M.gd_tf ?_ | refine M.gd_u ?_ | refine M.pick_t ?_ | refine M.pick_f ?_ | refine M.not_t ?_ | refine M.not_f ?_ | refine M.cond_t ?_ | refine M.cond_f ?_ | refine M.eqNilP_tn ?_ | refine M.eqNilP_ts ?_ | refine M.eqNilP_fn ?_ | refine M.eqNilP_fs ?_ | refine M.eqNilS_tn ?_ | refine M.eqNilS_ts ?_ | refine M.eqNilS_fn ?_ | refine M.eqNilS_fs ?_ | refine M.lss_t (by omega) ?_ | refine M.lss_f (by omega) ?_ | refine M.leq_t (by omega) ?_ | refine M.leq_f (by omega) ?_ | refine M.gtr_t (by omega) ?_ | refine M.gtr_f (by omega) ?_ | refine M.geq_t (by omega) ?_ | refine M.geq_f (by omega) ?_ | refine M.eql_t (by omega) ?_ | refine M.eql_f (by omega) ?_ | refine M.neq_t (by omega) ?_ | refine M.neq_f (by omega) ?_ | refine M.add_i (by omega) (by omega) ?_ | refine M.sub_i (by omega) (by omega) ?_ | refine M.load_i (by assumption) ?_ | refine M.loadB_i (by assumption) rfl ?_ | refine M.st_i (by assumption) ?_ | refine M.stB_i (by assumption) rfl ?_ | refine M.gs_ff ?_ | refine M.gs_tt ?_ | refine M.gs_ft ?_ | refine M.gs_tf ?_ | refine M.stAll_i (by assumption) rfl ?_))
    refine hK (i + 1) _ _ (by omega) ⟨v5, by simp, by omega, ?_, ((k2.trans k3 (fun _ _ h => h)).trans k4 (fun _ _ h => h)).trans k5 (fun b hb h => by omega)⟩
    rw [List.take_add_one, hx]
    simp only [Option.toList_some, List.map_append, List.map_cons, List.map_nil]
    exact g5.mono (fun b hb h => by omega)
  · (repeat (first | refine M.len_i ?_ | refine M.nilCheck_i ?_ | refine M.field_i ?_ | refine M.draw_i ?_ | refine M.cap_i ?_ | refine M.gd_tt ?_ | refine M.gd_ff ?_ | refine M.gd_ft ?_ | refine M.gd_tf ?_ | refine M.gd_u ?_ | refine M.pick_t ?_ | refine M.pick_f ?_ | refine M.not_t ?_ | refine M.not_f ?_ | refine M.cond_t ?_ | refine M.cond_f ?_ | refine M.eqNilP_tn ?_ | refine M.eqNilP_ts ?_ | refine M.eqNilP_fn ?_ | refine M.eqNilP_fs ?_ | refine M.eqNilS_tn ?_ | refine M.eqNilS_ts ?_ | refine M.eqNilS_fn ?_ | refine M.eqNilS_fs ?_ | refine M.lss_t (by omega) ?_ | refine M.lss_f (by omega) ?_ | refine M.leq_t (by omega) ?_ | refine M.leq_f (by omega) ?_ | refine M.gtr_t (by omega) ?_ | refine M.gtr_f (by omega) ?_ | refine M.geq_t (by omega) ?_ | refine M.geq_f (by omega) ?_ | refine M.eql_t (by omega) ?_ | refine M.eql_f (by omega) ?_ | refine M.neq_t (by omega) ?_ | refine M.neq_f (by omega) ?_ | refine M.add_i (by omega) (by omega) ?_ | refine M.sub_i (by omega) (by omega) ?_ | refine M.load_i (by assumption) ?_ | refine M.loadB_i (by assumption) rfl ?_ | refine M.st_i (by assumption) ?_ | refine M.stB_i (by assumption) rfl ?_ | refine M.gs_ff ?_ | refine M.gs_tt ?_ | refine M.gs_ft ?_ | refine M.gs_tf ?_ | refine M.stAll_i (by assumption) rfl ?_))
    have : i = c.length := by omega
    subst this
    rw [List.take_length] at g
    refine M.call_i (rclose_ret (hl.keep k2 (fun _ _ _ h => h)) (GI.lv g) (FewL.nots hf) hfl hI (nots_i64 hJ)) ?_; rintro _ w3 ⟨o3, out, k, rfl, hR, g3, k3⟩
    refine M.extract_i rfl ?_
    refine M.extract_i rfl ?_
    refine M.not_i ⟨!k, rfl, hR.bot_iff, k2.trans k3 (fun _ _ h => h)⟩
end Go.Proofs.Ytgbodhibflpgmaa
