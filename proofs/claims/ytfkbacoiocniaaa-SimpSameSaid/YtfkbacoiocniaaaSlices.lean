import Derived.Test.YtfkbacoiocniaaaRef03
namespace Go.Proofs.Ytfkbacoiocniaaa
open Go.Mw
set_option linter.unusedVariables false
set_option linter.unusedSimpArgs false
set_option maxRecDepth 100000
attribute [local irreducible] M.val M.unit M.next M.pick M.new M.nilCheck M.load1 M.loadA M.store M.fieldAddr M.indexSl M.indexArr M.slice M.makeSlice M.buildSlice M.len M.lenS M.cap M.append M.extract M.conv M.not M.neg M.bin M.shift M.eqB M.eqNil M.call M.callv M.gd M.share M.cond M.loop M.draw pureW readW Ret
/-! slices.IndexFunc[[]int,int]: function 99 -/
def sh99 (x0 x1 : Value) (R : Kt) (w : World) : Prop :=
  M.len x0 (fun t7 w =>
  M.loop [(Value.int IntKind.i64 0)] (fun s1 K1 w => ∀ _ : List Value,
  M.bin .lss (s1.getD 0 undef) t7 (fun t9 w =>
  M.cond t9
  (M.indexSl 1 x0 (s1.getD 0 undef) (fun t14 w =>
  M.load1 t14 (fun t15 w =>
  M.callv Try.prog x1 #[t15] (fun t16 w =>
  M.cond t16
  (R (s1.getD 0 undef) w)
  (M.bin .add (s1.getD 0 undef) (Value.int IntKind.i64 1) (fun t18 w =>
  K1 [t18] w) w)) w) w) w)
  (R (Value.int IntKind.i64 (-1)) w)) w) w) w
theorem ok99 (x0 x1 : Value) (R : Kt) (w : World) (h : sh99 x0 x1 R w) : Ret Try.prog 99 #[x0, x1] w R :=
  ret_mk <| calls_of_comp mixed (c := Try.f99.body.getD .skip) (args := [x0, x1]) (rs := [(ResultVar.tmp 4)]) (Ann.seq Ann.text (Ann.seq (Ann.seq Ann.text (Ann.block (Ann.loop [8] [4, 5, 9, 10, 11, 12, 13, 14, 15, 16, 17, 18] (Ann.seq Ann.text (Ann.seq (Ann.cond Ann.leaf Ann.leaf) (Ann.seq (Ann.block (Ann.seq Ann.text (Ann.seq Ann.text (Ann.cond (Ann.seq Ann.text Ann.leaf) Ann.leaf)))) Ann.text)))))) (Ann.seq Ann.text Ann.leaf)))
    Try.func99 (by kernel_rfl) (by kernel_rfl)
    (Eq.mp (by kernel_rfl) h)
/-! slices.ContainsFunc[[]int,int]: function 53 -/
def sh53 (x0 x1 : Value) (R : Kt) (w : World) : Prop :=
  M.call Try.prog 99 #[x0, x1] (fun t7 w =>
  M.bin .geq t7 (Value.int IntKind.i64 0) (fun t8 w =>
  R t8 w) w) w
theorem ok53 (x0 x1 : Value) (R : Kt) (w : World) (h : sh53 x0 x1 R w) : Ret Try.prog 53 #[x0, x1] w R :=
  ret_mk <| calls_of_comp mixed (c := Try.f53.body.getD .skip) (args := [x0, x1]) (rs := [(ResultVar.tmp 4)]) (Ann.seq Ann.text (Ann.seq Ann.text Ann.leaf))
    Try.func53 (by kernel_rfl) (by kernel_rfl)
    (Eq.mp (by kernel_rfl) h)
/-! slices.DeleteFunc[[]int,int]: function 61 -/
def sh61 (x0 x1 : Value) (R : Kt) (w : World) : Prop :=
  M.call Try.prog 99 #[x0, x1] (fun t10 w =>
  M.bin .eql t10 (Value.int IntKind.i64 (-1)) (fun t12 w =>
  M.cond t12
  (R x0 w)
  (M.bin .add t10 (Value.int IntKind.i64 1) (fun t15 w =>
  M.loop [t10, t15] (fun s1 K1 w => ∀ _ : List Value,
  M.len x0 (fun t18 w =>
  M.bin .lss (s1.getD 1 undef) t18 (fun t19 w =>
  M.cond t19
  (M.share (fun K2 w =>
  M.indexSl 1 x0 (s1.getD 1 undef) (fun t24 w =>
  M.load1 t24 (fun t25 w =>
  M.callv Try.prog x1 #[t25] (fun t28 w =>
  M.not t28 (fun t29 w =>
  M.cond t29
  (M.indexSl 1 x0 (s1.getD 0 undef) (fun t33 w =>
  M.store 1 t33 t25 (fun _ w =>
  M.bin .add (s1.getD 0 undef) (Value.int IntKind.i64 1) (fun t35 w =>
  K2 [t35] w) w) w) w)
  (K2 [(s1.getD 0 undef)] w)) w) w) w) w) (fun s2 w => ∀ _ : List Value,
  M.bin .add (s1.getD 1 undef) (Value.int IntKind.i64 1) (fun t21 w =>
  K1 [(s2.getD 0 undef), t21] w) w) w)
  (M.slice 1 x0 (some (s1.getD 0 undef)) none none (fun t38 w =>
  M.next Try.prog (builtin .clear #[22] 0 #[false] #[t38]) (fun _ w =>
  M.slice 1 x0 none (some (s1.getD 0 undef)) none (fun t41 w =>
  R t41 w) w) w) w)) w) w) w) w)) w) w
theorem ok61 (x0 x1 : Value) (R : Kt) (w : World) (h : sh61 x0 x1 R w) : Ret Try.prog 61 #[x0, x1] w R :=
  ret_mk <| calls_of_comp mixed (c := Try.f61.body.getD .skip) (args := [x0, x1]) (rs := [(ResultVar.tmp 4)]) (Ann.seq Ann.text (Ann.seq Ann.text (Ann.seq (Ann.seq Ann.text (Ann.cond (Ann.seq Ann.text Ann.leaf) Ann.leaf)) (Ann.seq (Ann.seq Ann.text (Ann.block (Ann.loop [5, 6] [7, 16, 17, 18, 19, 20, 21, 22, 23, 24, 25, 26, 27, 28, 29, 30, 31, 32, 33, 34, 35] (Ann.seq (Ann.seq Ann.text (Ann.cond Ann.leaf Ann.leaf)) (Ann.seq (Ann.jblock [5] [7, 22, 23, 24, 25, 26, 27, 28, 29, 30, 31, 32, 33, 34, 35] (Ann.seq Ann.text (Ann.seq Ann.text (Ann.cond (Ann.seq Ann.text Ann.text) Ann.leaf)))) Ann.text))))) (Ann.seq Ann.text (Ann.seq Ann.text Ann.leaf))))))
    Try.func61 (by kernel_rfl) (by kernel_rfl)
    (Eq.mp (by kernel_rfl) h)
/-! slices.Compact[[]int,int]: function 49 -/
def sh49 (x0 : Value) (R : Kt) (w : World) : Prop :=
  M.len x0 (fun t7 w =>
  M.bin .lss t7 (Value.int IntKind.i64 2) (fun t8 w =>
  M.cond t8
  (R x0 w)
  (M.loop [(Value.int IntKind.i64 1)] (fun s1 K1 w => ∀ _ : List Value,
  M.len x0 (fun t12 w =>
  M.bin .lss (s1.getD 0 undef) t12 (fun t13 w =>
  M.cond t13
  (M.draw (fun w =>
  M.indexSl 1 x0 (s1.getD 0 undef) (fun t18 w =>
  M.load1 t18 (fun t19 w =>
  M.bin .sub (s1.getD 0 undef) (Value.int IntKind.i64 1) (fun t22 w =>
  M.indexSl 1 x0 t22 (fun t23 w =>
  M.load1 t23 (fun t24 w =>
  M.bin .eql t19 t24 (fun t25 w =>
  M.cond t25
  (M.slice 1 x0 (some (s1.getD 0 undef)) none none (fun t28 w =>
  M.loop [(s1.getD 0 undef), (Value.int IntKind.i64 1)] (fun s2 K2 w => ∀ _ : List Value,
  M.len t28 (fun t31 w =>
  M.bin .lss (s2.getD 1 undef) t31 (fun t32 w =>
  M.cond t32
  (M.share (fun K3 w =>
  M.draw (fun w =>
  M.indexSl 1 t28 (s2.getD 1 undef) (fun t37 w =>
  M.load1 t37 (fun t38 w =>
  M.bin .sub (s2.getD 1 undef) (Value.int IntKind.i64 1) (fun t41 w =>
  M.indexSl 1 t28 t41 (fun t42 w =>
  M.load1 t42 (fun t43 w =>
  M.bin .neq t38 t43 (fun t44 w =>
  M.cond t44
  (M.indexSl 1 t28 (s2.getD 1 undef) (fun t49 w =>
  M.load1 t49 (fun t50 w =>
  M.indexSl 1 x0 (s2.getD 0 undef) (fun t51 w =>
  M.store 1 t51 t50 (fun _ w =>
  M.bin .add (s2.getD 0 undef) (Value.int IntKind.i64 1) (fun t53 w =>
  K3 [t53] w) w) w) w) w) w)
  (K3 [(s2.getD 0 undef)] w)) w) w) w) w) w) w) w) (fun s3 w => ∀ _ : List Value,
  M.bin .add (s2.getD 1 undef) (Value.int IntKind.i64 1) (fun t34 w =>
  K2 [(s3.getD 0 undef), t34] w) w) w)
  (M.slice 1 x0 (some (s2.getD 0 undef)) none none (fun t56 w =>
  M.next Try.prog (builtin .clear #[22] 0 #[false] #[t56]) (fun _ w =>
  M.slice 1 x0 none (some (s2.getD 0 undef)) none (fun t59 w =>
  R t59 w) w) w) w)) w) w) w) w)
  (M.bin .add (s1.getD 0 undef) (Value.int IntKind.i64 1) (fun t15 w =>
  K1 [t15] w) w)) w) w) w) w) w) w) w)
  (R x0 w)) w) w) w)) w) w
theorem ok49 (x0 : Value) (R : Kt) (w : World) (h : sh49 x0 R w) : Ret Try.prog 49 #[x0] w R :=
  ret_mk <| calls_of_comp mixed (c := Try.f49.body.getD .skip) (args := [x0]) (rs := [(ResultVar.tmp 2)]) (Ann.seq Ann.text (Ann.seq (Ann.seq Ann.text (Ann.cond (Ann.seq Ann.text Ann.leaf) Ann.leaf)) (Ann.seq (Ann.seq Ann.text (Ann.block (Ann.loop [3] [2, 4, 5, 10, 11, 12, 13, 14, 15, 16, 17, 18, 19, 20, 21, 22, 23, 24, 25, 26, 27, 28, 29, 30, 31, 32, 33, 34, 35, 36, 37, 38, 39, 40, 41, 42, 43, 44, 45, 46, 47, 48, 49, 50, 51, 52, 53, 54, 55, 56, 57, 58, 59] (Ann.seq (Ann.seq Ann.text (Ann.cond Ann.leaf Ann.leaf)) (Ann.seq (Ann.block (Ann.seq (Ann.draw (Sch.take 0 (Sch.take 1 (Sch.take 2 (Sch.take 3 (Sch.take 4 (Sch.take 5 (Sch.take 6 (Sch.take 7 (Sch.take 8 (Sch.take 9 Sch.done))))))))))) (Ann.cond (Ann.seq Ann.text (Ann.seq (Ann.seq Ann.text (Ann.block (Ann.loop [3, 5] [29, 30, 31, 32, 33, 34, 35, 36, 37, 38, 39, 40, 41, 42, 43, 44, 45, 46, 47, 48, 49, 50, 51, 52, 53] (Ann.seq (Ann.seq Ann.text (Ann.cond Ann.leaf Ann.leaf)) (Ann.seq (Ann.jblock [3] [35, 36, 37, 38, 39, 40, 41, 42, 43, 44, 45, 46, 47, 48, 49, 50, 51, 52, 53] (Ann.seq (Ann.draw (Sch.take 0 (Sch.take 1 (Sch.take 2 (Sch.take 3 (Sch.take 4 (Sch.take 5 (Sch.take 6 (Sch.take 7 (Sch.take 8 (Sch.take 9 Sch.done))))))))))) (Ann.cond (Ann.seq Ann.text Ann.text) Ann.leaf))) Ann.text))))) (Ann.seq Ann.text (Ann.seq Ann.text Ann.leaf)))) Ann.leaf))) Ann.text))))) (Ann.seq Ann.text Ann.leaf))))
    Try.func49 (by kernel_rfl) (by kernel_rfl)
    (Eq.mp (by kernel_rfl) h)
/-! slices.Index[[]int,int]: function 102 -/
def sh102 (x0 x1 : Value) (R : Kt) (w : World) : Prop :=
  M.len x0 (fun t7 w =>
  M.loop [(Value.int IntKind.i64 0)] (fun s1 K1 w => ∀ _ : List Value,
  M.bin .lss (s1.getD 0 undef) t7 (fun t9 w =>
  M.cond t9
  (M.indexSl 1 x0 (s1.getD 0 undef) (fun t14 w =>
  M.load1 t14 (fun t15 w =>
  M.bin .eql x1 t15 (fun t16 w =>
  M.cond t16
  (R (s1.getD 0 undef) w)
  (M.bin .add (s1.getD 0 undef) (Value.int IntKind.i64 1) (fun t18 w =>
  K1 [t18] w) w)) w) w) w)
  (R (Value.int IntKind.i64 (-1)) w)) w) w) w
theorem ok102 (x0 x1 : Value) (R : Kt) (w : World) (h : sh102 x0 x1 R w) : Ret Try.prog 102 #[x0, x1] w R :=
  ret_mk <| calls_of_comp mixed (c := Try.f102.body.getD .skip) (args := [x0, x1]) (rs := [(ResultVar.tmp 4)]) (Ann.seq Ann.text (Ann.seq (Ann.seq Ann.text (Ann.block (Ann.loop [8] [4, 5, 9, 10, 11, 12, 13, 14, 15, 16, 17, 18] (Ann.seq Ann.text (Ann.seq (Ann.cond Ann.leaf Ann.leaf) (Ann.seq (Ann.block (Ann.seq Ann.text (Ann.seq Ann.text (Ann.cond (Ann.seq Ann.text Ann.leaf) Ann.leaf)))) Ann.text)))))) (Ann.seq Ann.text Ann.leaf)))
    Try.func102 (by kernel_rfl) (by kernel_rfl)
    (Eq.mp (by kernel_rfl) h)
/-! slices.Contains[[]int,int]: function 57 -/
def sh57 (x0 x1 : Value) (R : Kt) (w : World) : Prop :=
  M.call Try.prog 102 #[x0, x1] (fun t7 w =>
  M.bin .geq t7 (Value.int IntKind.i64 0) (fun t8 w =>
  R t8 w) w) w
theorem ok57 (x0 x1 : Value) (R : Kt) (w : World) (h : sh57 x0 x1 R w) : Ret Try.prog 57 #[x0, x1] w R :=
  ret_mk <| calls_of_comp mixed (c := Try.f57.body.getD .skip) (args := [x0, x1]) (rs := [(ResultVar.tmp 4)]) (Ann.seq Ann.text (Ann.seq Ann.text Ann.leaf))
    Try.func57 (by kernel_rfl) (by kernel_rfl)
    (Eq.mp (by kernel_rfl) h)

/-- 'g' answers p of any number, wherever I holds. -/
def PredF (g : Value) (I : World → Prop) (p : Int → Bool) : Prop := ∀ (x : Int) (w : World) (k : Kt), I w → (∀ w', I w' → Keep w w' No → k (.bool (p x)) w') → M.callv Try.prog g #[vi x] k w
def idxI (p : Int → Bool) (xs : List Int) : Int := match xs.findIdx? p with
  | some i => i
  | none => -1
theorem idxI_lt (p : Int → Bool) (xs : List Int) : -1 ≤ idxI p xs ∧ idxI p xs < xs.length := by
  unfold idxI
  split
  · rename_i i h
    have := (List.findIdx?_eq_some_iff_getElem.1 h).1
    omega
  · omega
theorem idxI_any (p : Int → Bool) (xs : List Int) : decide (0 ≤ idxI p xs) = xs.any p := by
  unfold idxI
  cases h : xs.findIdx? p with
  | some i =>
    obtain ⟨h1, h2, _⟩ := List.findIdx?_eq_some_iff_getElem.1 h
    have : xs.any p = true := List.any_eq_true.2 ⟨_, List.getElem_mem h1, h2⟩
    simp [this]
  | none =>
    have : xs.any p = false := by
      rw [List.any_eq_false]
      intro x hx
      simpa using List.findIdx?_eq_none_iff.1 h x hx
    simp [this]
theorem indexFunc_ret {w : World} {D : Nat → Prop} {v g : Value} {xs : List Int} {I : World → Prop} {p : Int → Bool} (h : LV vi w D v xs) (hf : Few xs.length) (hp : PredF g I p) (hi0 : I w) :
    Ret Try.prog 99 #[v, g] w (fun r w' => r = vi (idxI p xs) ∧ I w' ∧ Keep w w' No) := by
  obtain ⟨A, c, rfl, hr, hc⟩ := h
  refine ok99 _ _ _ _ ?_
  unfold sh99
  (repeat (first | refine M.len_i ?_ | refine M.nilCheck_i ?_ | refine M.field_i ?_ | refine M.draw_i ?_ | refine M.cap_i ?_ | refine M.gd_tt ?_ | refine M.gd_ff ?_ | refine M.gd_ft ?_ | refine M.gd_tf ?_ | refine M.gd_u ?_ | refine M.pick_t ?_ | refine M.pick_f ?_ | refine M.not_t ?_ | refine M.not_f ?_ | refine M.cond_t ?_ | refine M.cond_f ?_ | refine M.eqNilP_tn ?_ | refine M.eqNilP_ts ?_ | refine M.eqNilP_fn ?_ | refine M.eqNilP_fs ?_ | refine M.eqNilS_tn ?_ | refine M.eqNilS_ts ?_ | refine M.eqNilS_fn ?_ | refine M.eqNilS_fs ?_ | refine M.lss_t (by omega) ?_ | refine M.lss_f (by omega) ?_ | refine M.leq_t (by omega) ?_ | refine M.leq_f (by omega) ?_ | refine M.gtr_t (by omega) ?_ | refine M.gtr_f (by omega) ?_ | refine M.geq_t (by omega) ?_ | refine M.geq_f (by omega) ?_ | refine M.eql_t (by omega) ?_ | refine M.eql_f (by omega) ?_ | refine M.neq_t (by omega) ?_ | refine M.neq_f (by omega) ?_ | refine M.add_i (by omega) (by omega) ?_ | refine M.sub_i (by omega) (by omega) ?_ | refine M.load_i (by assumption) ?_ | refine M.loadB_i (by assumption) rfl ?_ | refine M.st_i (by assumption) ?_ | refine M.stB_i (by assumption) rfl ?_ | refine M.gs_ff ?_ | refine M.gs_tt ?_ | refine M.gs_ft ?_ | refine M.gs_tf ?_ | refine M.stAll_i (by assumption) rfl ?_))
  refine M.loop_i (σ := Nat) (fun i vals w' => vals = [vi i] ∧ i ≤ xs.length ∧ (∀ x ∈ xs.take i, p x = false) ∧ I w' ∧ Keep w w' No) (fun i => xs.length - i) 0 ⟨rfl, by omega, by simp, hi0, Keep.refl _ _⟩ ?_
  rintro i vals w1 K ⟨rfl, hi, hno, hI, k1⟩ hK _
  simp only [List.getD_cons_zero, List.getD_cons_succ]
  by_cases hlt : i < xs.length
  · obtain ⟨e, he⟩ : ∃ e, xs[i]? = some e := ⟨_, List.getElem?_eq_getElem hlt⟩
    have hr := hr.keep k1 (fun _ _ _ h => h)
    (repeat (first | refine M.len_i ?_ | refine M.nilCheck_i ?_ | refine M.field_i ?_ | refine M.draw_i ?_ | refine M.cap_i ?_ | refine M.gd_tt ?_ | refine M.gd_ff ?_ | refine M.gd_ft ?_ | refine M.gd_tf ?_ | refine M.gd_u ?_ | refine M.pick_t ?_ | refine M.pick_f ?_ | refine M.not_t ?_ | refine M.not_f ?_ | refine M.cond_t ?_ | refine M.cond_f ?_ | refine M.eqNilP_tn ?_ | refine M.eqNilP_ts ?_ | refine M.eqNilP_fn ?_ | refine M.eqNilP_fs ?_ | refine M.eqNilS_tn ?_ | refine M.eqNilS_ts ?_ | refine M.eqNilS_fn ?_ | refine M.eqNilS_fs ?_ | refine M.lss_t (by omega) ?_ | refine M.lss_f (by omega) ?_ | refine M.leq_t (by omega) ?_ | refine M.leq_f (by omega) ?_ | refine M.gtr_t (by omega) ?_ | refine M.gtr_f (by omega) ?_ | refine M.geq_t (by omega) ?_ | refine M.geq_f (by omega) ?_ | refine M.eql_t (by omega) ?_ | refine M.eql_f (by omega) ?_ | refine M.neq_t (by omega) ?_ | refine M.neq_f (by omega) ?_ | refine M.add_i (by omega) (by omega) ?_ | refine M.sub_i (by omega) (by omega) ?_ | refine M.load_i (by assumption) ?_ | refine M.loadB_i (by assumption) rfl ?_ | refine M.st_i (by assumption) ?_ | refine M.stB_i (by assumption) rfl ?_ | refine M.gs_ff ?_ | refine M.gs_tt ?_ | refine M.gs_ft ?_ | refine M.gs_tf ?_ | refine M.stAll_i (by assumption) rfl ?_))
    refine M.idxLV_i hr rfl (by omega) (by omega) (x := e) (by simpa using he) (fun b o hA hc => ?_)
    (repeat (first | refine M.len_i ?_ | refine M.nilCheck_i ?_ | refine M.field_i ?_ | refine M.draw_i ?_ | refine M.cap_i ?_ | refine M.gd_tt ?_ | refine M.gd_ff ?_ | refine M.gd_ft ?_ | refine M.gd_tf ?_ | refine M.gd_u ?_ | refine M.pick_t ?_ | refine M.pick_f ?_ | refine M.not_t ?_ | refine M.not_f ?_ | refine M.cond_t ?_ | refine M.cond_f ?_ | refine M.eqNilP_tn ?_ | refine M.eqNilP_ts ?_ | refine M.eqNilP_fn ?_ | refine M.eqNilP_fs ?_ | refine M.eqNilS_tn ?_ | refine M.eqNilS_ts ?_ | refine M.eqNilS_fn ?_ | refine M.eqNilS_fs ?_ | refine M.lss_t (by omega) ?_ | refine M.lss_f (by omega) ?_ | refine M.leq_t (by omega) ?_ | refine M.leq_f (by omega) ?_ | refine M.gtr_t (by omega) ?_ | refine M.gtr_f (by omega) ?_ | refine M.geq_t (by omega) ?_ | refine M.geq_f (by omega) ?_ | refine M.eql_t (by omega) ?_ | refine M.eql_f (by omega) ?_ | refine M.neq_t (by omega) ?_ | refine M.neq_f (by omega) ?_ | refine M.add_i (by omega) (by omega) ?_ | refine M.sub_i (by omega) (by omega) ?_ | refine M.load_i (by assumption) ?_ | refine M.loadB_i (by assumption) rfl ?_ | refine M.st_i (by assumption) ?_ | refine M.stB_i (by assumption) rfl ?_ | refine M.gs_ff ?_ | refine M.gs_tt ?_ | refine M.gs_ft ?_ | refine M.gs_tf ?_ | refine M.stAll_i (by assumption) rfl ?_))
    refine hp e _ _ hI (fun w2 hI k2 => ?_)
    refine M.condB_i (fun hx => ?_) (fun hx => ?_)
    · refine ⟨?_, hI, k1.trans k2 (fun _ _ h => h)⟩
      have : xs.findIdx? p = some i := by
        rw [List.findIdx?_eq_some_iff_getElem]
        obtain ⟨h1, h2⟩ := List.getElem?_eq_some_iff.1 he
        refine ⟨h1, by rw [h2]; exact hx, fun j hj => ?_⟩
        have := hno xs[j] (List.mem_take_iff_getElem.2 ⟨j, by omega, rfl⟩)
        simpa using this
      simp [idxI, this]
    · (repeat (first | refine M.len_i ?_ | refine M.nilCheck_i ?_ | refine M.field_i ?_ | refine M.draw_i ?_ | refine M.cap_i ?_ | refine M.gd_tt ?_ | refine M.gd_ff ?_ | refine M.gd_ft ?_ | refine M.gd_tf ?_ | refine M.gd_u ?_ | refine M.pick_t ?_ | refine M.pick_f ?_ | refine M.not_t ?_ | refine M.not_f ?_ | refine M.cond_t ?_ | refine M.cond_f ?_ | refine M.eqNilP_tn ?_ | refine M.eqNilP_ts ?_ | refine M.eqNilP_fn ?_ | refine M.eqNilP_fs ?_ | refine M.eqNilS_tn ?_ | refine M.eqNilS_ts ?_ | refine M.eqNilS_fn ?_ | refine M.eqNilS_fs ?_ | refine M.lss_t (by omega) ?_ | refine M.lss_f (by omega) ?_ | refine M.leq_t (by omega) ?_ | refine M.leq_f (by omega) ?_ | refine M.gtr_t (by omega) ?_ | refine M.gtr_f (by omega) ?_ | refine M.geq_t (by omega) ?_ | refine M.geq_f (by omega) ?_ | refine M.eql_t (by omega) ?_ | refine M.eql_f (by omega) ?_ | refine M.neq_t (by omega) ?_ | refine M.neq_f (by omega) ?_ | refine M.add_i (by omega) (by omega) ?_ | refine M.sub_i (by omega) (by omega) ?_ | refine M.load_i (by assumption) ?_ | refine M.loadB_i (by assumption) rfl ?_ | refine M.st_i (by assumption) ?_ | refine M.stB_i (by assumption) rfl ?_ | refine M.gs_ff ?_ | refine M.gs_tt ?_ | refine M.gs_ft ?_ | refine M.gs_tf ?_ | refine M.stAll_i (by assumption) rfl ?_))
      refine hK (i + 1) _ _ (by omega) ⟨by simp, by omega, fun x hx' => ?_, hI, k1.trans k2 (fun _ _ h => h)⟩
      rcases (mem_take_succ he).1 hx' with h | h
      · exact hno x h
      · exact h ▸ hx
  · (repeat (first | refine M.len_i ?_ | refine M.nilCheck_i ?_ | refine M.field_i ?_ | refine M.draw_i ?_ | refine M.cap_i ?_ | refine M.gd_tt ?_ | refine M.gd_ff ?_ | refine M.gd_ft ?_ | refine M.gd_tf ?_ | refine M.gd_u ?_ | refine M.pick_t ?_ | refine M.pick_f ?_ | refine M.not_t ?_ | refine M.not_f ?_ | refine M.cond_t ?_ | refine M.cond_f ?_ | refine M.eqNilP_tn ?_ | refine M.eqNilP_ts ?_ | refine M.eqNilP_fn ?_ | refine M.eqNilP_fs ?_ | refine M.eqNilS_tn ?_ | refine M.eqNilS_ts ?_ | refine M.eqNilS_fn ?_ | refine M.eqNilS_fs ?_ | refine M.lss_t (by omega) ?_ | refine M.lss_f (by omega) ?_ | refine M.leq_t (by omega) ?_ | refine M.leq_f (by omega) ?_ | refine M.gtr_t (by omega) ?_ | refine M.gtr_f (by omega) ?_ | refine M.geq_t (by omega) ?_ | refine M.geq_f (by omega) ?_ | refine M.eql_t (by omega) ?_ | refine M.eql_f (by omega) ?_ | refine M.neq_t (by omega) ?_ | refine M.neq_f (by omega) ?_ | refine M.add_i (by omega) (by omega) ?_ | refine M.sub_i (by omega) (by omega) ?_ | refine M.load_i (by assumption) ?_ | refine M.loadB_i (by assumption) rfl ?_ | refine M.st_i (by assumption) ?_ | refine M.stB_i (by assumption) rfl ?_ | refine M.gs_ff ?_ | refine M.gs_tt ?_ | refine M.gs_ft ?_ | refine M.gs_tf ?_ | refine M.stAll_i (by assumption) rfl ?_))
    have : i = xs.length := by omega
    subst this
    rw [List.take_length] at hno
    refine ⟨?_, hI, k1⟩
    have : xs.findIdx? p = none := List.findIdx?_eq_none_iff.2 hno
    simp [idxI, this]
theorem containsFunc_ret {w : World} {D : Nat → Prop} {v g : Value} {xs : List Int} {I : World → Prop} {p : Int → Bool} (h : LV vi w D v xs) (hf : Few xs.length) (hp : PredF g I p) (hi0 : I w) :
    Ret Try.prog 53 #[v, g] w (fun r w' => r = .bool (xs.any p) ∧ I w' ∧ Keep w w' No) := by
  refine ok53 _ _ _ _ ?_
  unfold sh53
  refine M.call_i (indexFunc_ret h hf hp hi0) ?_; rintro _ w1 ⟨rfl, hI, k1⟩
  refine M.geq_i ⟨?_, hI, k1⟩
  rw [idxI_any]
theorem index_ret {w : World} {D : Nat → Prop} {v : Value} {xs : List Int} (h : LV vi w D v xs) (hf : Few xs.length) (x : Int) :
    Ret Try.prog 102 #[v, vi x] w (fun r w' => r = vi (idxI (decide <| x = ·) xs) ∧ Keep w w' No) := by
  obtain ⟨A, c, rfl, hr, hc⟩ := h
  refine ok102 _ _ _ _ ?_
  unfold sh102
  (repeat (first | refine M.len_i ?_ | refine M.nilCheck_i ?_ | refine M.field_i ?_ | refine M.draw_i ?_ | refine M.cap_i ?_ | refine M.gd_tt ?_ | refine M.gd_ff ?_ | refine M.gd_ft ?_ | refine M.gd_tf ?_ | refine M.gd_u ?_ | refine M.pick_t ?_ | refine M.pick_f ?_ | refine M.not_t ?_ | refine M.not_f ?_ | refine M.cond_t ?_ | refine M.cond_f ?_ | refine M.eqNilP_tn ?_ | refine M.eqNilP_ts ?_ | refine M.eqNilP_fn ?_ | refine M.eqNilP_fs ?_ | refine M.eqNilS_tn ?_ | refine M.eqNilS_ts ?_ | refine M.eqNilS_fn ?_ | refine M.eqNilS_fs ?_ | refine M.lss_t (by omega) ?_ | refine M.lss_f (by omega) ?_ | refine M.leq_t (by omega) ?_ | refine M.leq_f (by omega) ?_ | refine M.gtr_t (by omega) ?_ | refine M.gtr_f (by omega) ?_ | refine M.geq_t (by omega) ?_ | refine M.geq_f (by omega) ?_ | refine M.eql_t (by omega) ?_ | refine M.eql_f (by omega) ?_ | refine M.neq_t (by omega) ?_ | refine M.neq_f (by omega) ?_ | refine M.add_i (by omega) (by omega) ?_ | refine M.sub_i (by omega) (by omega) ?_ | refine M.load_i (by assumption) ?_ | refine M.loadB_i (by assumption) rfl ?_ | refine M.st_i (by assumption) ?_ | refine M.stB_i (by assumption) rfl ?_ | refine M.gs_ff ?_ | refine M.gs_tt ?_ | refine M.gs_ft ?_ | refine M.gs_tf ?_ | refine M.stAll_i (by assumption) rfl ?_))
  refine M.loop_i (σ := Nat) (fun i vals w' => vals = [vi i] ∧ i ≤ xs.length ∧ (∀ y ∈ xs.take i, x ≠ y) ∧ w' = w) (fun i => xs.length - i) 0 ⟨rfl, by omega, by simp, rfl⟩ ?_
  rintro i vals w1 K ⟨rfl, hi, hno, rfl⟩ hK _
  simp only [List.getD_cons_zero, List.getD_cons_succ]
  by_cases hlt : i < xs.length
  · obtain ⟨e, he⟩ : ∃ e, xs[i]? = some e := ⟨_, List.getElem?_eq_getElem hlt⟩
    (repeat (first | refine M.len_i ?_ | refine M.nilCheck_i ?_ | refine M.field_i ?_ | refine M.draw_i ?_ | refine M.cap_i ?_ | refine M.gd_tt ?_ | refine M.gd_ff ?_ | refine M.gd_ft ?_ | refine M.gd_tf ?_ | refine M.gd_u ?_ | refine M.pick_t ?_ | refine M.pick_f ?_ | refine M.not_t ?_ | refine M.not_f ?_ | refine M.cond_t ?_ | refine M.cond_f ?_ | refine M.eqNilP_tn ?_ | refine M.eqNilP_ts ?_ | refine M.eqNilP_fn ?_ | refine M.eqNilP_fs ?_ | refine M.eqNilS_tn ?_ | refine M.eqNilS_ts ?_ | refine M.eqNilS_fn ?_ | refine M.eqNilS_fs ?_ | refine M.lss_t (by omega) ?_ | refine M.lss_f (by omega) ?_ | refine M.leq_t (by omega) ?_ | refine M.leq_f (by omega) ?_ | refine M.gtr_t (by omega) ?_ | refine M.gtr_f (by omega) ?_ | refine M.geq_t (by omega) ?_ | refine M.geq_f (by omega) ?_ | refine M.eql_t (by omega) ?_ | refine M.eql_f (by omega) ?_ | refine M.neq_t (by omega) ?_ | refine M.neq_f (by omega) ?_ | refine M.add_i (by omega) (by omega) ?_ | refine M.sub_i (by omega) (by omega) ?_ | refine M.load_i (by assumption) ?_ | refine M.loadB_i (by assumption) rfl ?_ | refine M.st_i (by assumption) ?_ | refine M.stB_i (by assumption) rfl ?_ | refine M.gs_ff ?_ | refine M.gs_tt ?_ | refine M.gs_ft ?_ | refine M.gs_tf ?_ | refine M.stAll_i (by assumption) rfl ?_))
    refine M.idxLV_i hr rfl (by omega) (by omega) (x := e) (by simpa using he) (fun b o hA hc => ?_)
    (repeat (first | refine M.len_i ?_ | refine M.nilCheck_i ?_ | refine M.field_i ?_ | refine M.draw_i ?_ | refine M.cap_i ?_ | refine M.gd_tt ?_ | refine M.gd_ff ?_ | refine M.gd_ft ?_ | refine M.gd_tf ?_ | refine M.gd_u ?_ | refine M.pick_t ?_ | refine M.pick_f ?_ | refine M.not_t ?_ | refine M.not_f ?_ | refine M.cond_t ?_ | refine M.cond_f ?_ | refine M.eqNilP_tn ?_ | refine M.eqNilP_ts ?_ | refine M.eqNilP_fn ?_ | refine M.eqNilP_fs ?_ | refine M.eqNilS_tn ?_ | refine M.eqNilS_ts ?_ | refine M.eqNilS_fn ?_ | refine M.eqNilS_fs ?_ | refine M.lss_t (by omega) ?_ | refine M.lss_f (by omega) ?_ | refine M.leq_t (by omega) ?_ | refine M.leq_f (by omega) ?_ | refine M.gtr_t (by omega) ?_ | refine M.gtr_f (by omega) ?_ | refine M.geq_t (by omega) ?_ | refine M.geq_f (by omega) ?_ | refine M.eql_t (by omega) ?_ | refine M.eql_f (by omega) ?_ | refine M.neq_t (by omega) ?_ | refine M.neq_f (by omega) ?_ | refine M.add_i (by omega) (by omega) ?_ | refine M.sub_i (by omega) (by omega) ?_ | refine M.load_i (by assumption) ?_ | refine M.loadB_i (by assumption) rfl ?_ | refine M.st_i (by assumption) ?_ | refine M.stB_i (by assumption) rfl ?_ | refine M.gs_ff ?_ | refine M.gs_tt ?_ | refine M.gs_ft ?_ | refine M.gs_tf ?_ | refine M.stAll_i (by assumption) rfl ?_))
    refine M.eql_i ?_
    refine M.cond_i (fun hx => ?_) (fun hx => ?_)
    · refine ⟨?_, Keep.refl _ _⟩
      have : xs.findIdx? (decide <| x = ·) = some i := by
        rw [List.findIdx?_eq_some_iff_getElem]
        obtain ⟨h1, h2⟩ := List.getElem?_eq_some_iff.1 he
        refine ⟨h1, by rw [h2]; simpa using hx, fun j hj => ?_⟩
        have := hno xs[j] (List.mem_take_iff_getElem.2 ⟨j, by omega, rfl⟩)
        simpa using this
      simp [idxI, this]
    · (repeat (first | refine M.len_i ?_ | refine M.nilCheck_i ?_ | refine M.field_i ?_ | refine M.draw_i ?_ | refine M.cap_i ?_ | refine M.gd_tt ?_ | refine M.gd_ff ?_ | refine M.gd_ft ?_ | refine M.gd_tf ?_ | refine M.gd_u ?_ | refine M.pick_t ?_ | refine M.pick_f ?_ | refine M.not_t ?_ | refine M.not_f ?_ | refine M.cond_t ?_ | refine M.cond_f ?_ | refine M.eqNilP_tn ?_ | refine M.eqNilP_ts ?_ | refine M.eqNilP_fn ?_ | refine M.eqNilP_fs ?_ | refine M.eqNilS_tn ?_ | refine M.eqNilS_ts ?_ | refine M.eqNilS_fn ?_ | refine M.eqNilS_fs ?_ | refine M.lss_t (by omega) ?_ | refine M.lss_f (by omega) ?_ | refine M.leq_t (by omega) ?_ | refine M.leq_f (by omega) ?_ | refine M.gtr_t (by omega) ?_ | refine M.gtr_f (by omega) ?_ | refine M.geq_t (by omega) ?_ | refine M.geq_f (by omega) ?_ | refine M.eql_t (by omega) ?_ | refine M.eql_f (by omega) ?_ | refine M.neq_t (by omega) ?_ | refine M.neq_f (by omega) ?_ | refine M.add_i (by omega) (by omega) ?_ | refine M.sub_i (by omega) (by omega) ?_ | refine M.load_i (by assumption) ?_ | refine M.loadB_i (by assumption) rfl ?_ | refine M.st_i (by assumption) ?_ | refine M.stB_i (by assumption) rfl ?_ | refine M.gs_ff ?_ | refine M.gs_tt ?_ | refine M.gs_ft ?_ | refine M.gs_tf ?_ | refine M.stAll_i (by assumption) rfl ?_))
      refine hK (i + 1) _ _ (by omega) ⟨by simp, by omega, fun y hx' => ?_, rfl⟩
      rcases (mem_take_succ he).1 hx' with h | h
      · exact hno y h
      · exact h ▸ hx
  · (repeat (first | refine M.len_i ?_ | refine M.nilCheck_i ?_ | refine M.field_i ?_ | refine M.draw_i ?_ | refine M.cap_i ?_ | refine M.gd_tt ?_ | refine M.gd_ff ?_ | refine M.gd_ft ?_ | refine M.gd_tf ?_ | refine M.gd_u ?_ | refine M.pick_t ?_ | refine M.pick_f ?_ | refine M.not_t ?_ | refine M.not_f ?_ | refine M.cond_t ?_ | refine M.cond_f ?_ | refine M.eqNilP_tn ?_ | refine M.eqNilP_ts ?_ | refine M.eqNilP_fn ?_ | refine M.eqNilP_fs ?_ | refine M.eqNilS_tn ?_ | refine M.eqNilS_ts ?_ | refine M.eqNilS_fn ?_ | refine M.eqNilS_fs ?_ | refine M.lss_t (by omega) ?_ | refine M.lss_f (by omega) ?_ | refine M.leq_t (by omega) ?_ | refine M.leq_f (by omega) ?_ | refine M.gtr_t (by omega) ?_ | refine M.gtr_f (by omega) ?_ | refine M.geq_t (by omega) ?_ | refine M.geq_f (by omega) ?_ | refine M.eql_t (by omega) ?_ | refine M.eql_f (by omega) ?_ | refine M.neq_t (by omega) ?_ | refine M.neq_f (by omega) ?_ | refine M.add_i (by omega) (by omega) ?_ | refine M.sub_i (by omega) (by omega) ?_ | refine M.load_i (by assumption) ?_ | refine M.loadB_i (by assumption) rfl ?_ | refine M.st_i (by assumption) ?_ | refine M.stB_i (by assumption) rfl ?_ | refine M.gs_ff ?_ | refine M.gs_tt ?_ | refine M.gs_ft ?_ | refine M.gs_tf ?_ | refine M.stAll_i (by assumption) rfl ?_))
    have : i = xs.length := by omega
    subst this
    rw [List.take_length] at hno
    refine ⟨?_, Keep.refl _ _⟩
    have : xs.findIdx? (decide <| x = ·) = none := List.findIdx?_eq_none_iff.2 (fun y hy => by simpa using hno y hy)
    simp [idxI, this]
theorem contains_ret {w : World} {D : Nat → Prop} {v : Value} {xs : List Int} (h : LV vi w D v xs) (hf : Few xs.length) (x : Int) :
    Ret Try.prog 57 #[v, vi x] w (fun r w' => r = .bool (decide (x ∈ xs)) ∧ Keep w w' No) := by
  refine ok57 _ _ _ _ ?_
  unfold sh57
  refine M.call_i (index_ret h hf x) ?_; rintro _ w1 ⟨rfl, k1⟩
  refine M.geq_i ⟨?_, k1⟩
  rw [idxI_any]
  have : xs.any (decide <| x = ·) = decide (x ∈ xs) := by
    by_cases hx : x ∈ xs
    · simp only [hx, decide_true]
      exact List.any_eq_true.2 ⟨x, hx, by simp⟩
    · simp only [hx, decide_false]
      rw [List.any_eq_false]
      intro y hy h
      have : x = y := by simpa using h
      exact hx (this ▸ hy)
  rw [this]
theorem set_take {α : Type} {l : List α} {i : Nat} (x : α) (h : i < l.length) : (l.set i x).take (i + 1) = l.take i ++ [x] := by
  rw [List.take_add_one, List.take_set, List.set_eq_of_length_le (by simp; omega)]
  simp [h]
theorem set_drop {α : Type} {l : List α} {i j : Nat} (x : α) (h : i < j) : (l.set i x).drop j = l.drop j := by
  rw [List.drop_set, if_pos h]
theorem drop_get {α : Type} {l m : List α} {i j : Nat} (h : l.drop i = m.drop i) (hij : i ≤ j) : l[j]? = m[j]? := by
  have := congrArg (fun z => z[j - i]?) h
  simp only [List.getElem?_drop] at this
  rwa [show i + (j - i) = j by omega] at this
theorem drop_more {α : Type} {l m : List α} {i j : Nat} (h : l.drop i = m.drop i) (hij : i ≤ j) : l.drop j = m.drop j := by
  apply List.ext_getElem?
  intro n
  rw [List.getElem?_drop, List.getElem?_drop]
  exact drop_get h (by omega)
/-- 's = s[:n]' behind 'clear(s[n:])'. -/
theorem tail_out {P : Program} {R : Kt} {w : World} {T ty elem : TypeId} {cs : Array Bool} {L : Nat → Prop} {A : Option Addr} {c n m : Nat} {ys zs : List Int} (hu : P.underlying T = some (.slice elem)) (hz : ∀ w, (zeroValue elem).run P w = .ok (vi 0) w)
    (hm : m = ys.length) (h : GI w L (.slice A ys.length c) ys) (hn : n ≤ ys.length) (hzs : ys.take n = zs) (hR : ∀ r w', GI w' L r zs → Keep w w' L → R r w') :
    M.slice 1 (.slice A m c) (some (vi n)) none none (fun t w => M.next P (builtin .clear #[T] ty cs #[t]) (fun _ w => M.slice 1 (.slice A m c) none (some (vi n)) none (fun r w => R r w) w) w) w := by
  subst hm
  refine M.slice_i n ys.length c (sl3_l hn) ?_
  refine M.clearTail_i hu hz h hn (fun w1 g1 k1 s1 => ?_)
  have hlen : (ys.take n ++ List.replicate (ys.length - n) 0).length = ys.length := by simp; omega
  have hcap := GI.cap_le h
  refine M.slice_i 0 n c (sl3_h (by omega)) ?_
  have g1 : GI w1 L (.slice A (ys.take n ++ List.replicate (ys.length - n) 0).length c) (ys.take n ++ List.replicate (ys.length - n) 0) := by rw [hlen]; exact g1
  have := GI.cut g1 (m := n) (by omega)
  rw [List.take_append_of_le_length (by simp; omega), List.take_take, Nat.min_self, hzs] at this
  exact hR _ _ this k1
set_option maxHeartbeats 1000000 in
theorem deleteFunc_ret {w : World} {L : Nat → Prop} {v g : Value} {xs : List Int} {I : World → Prop} {p : Int → Bool} (h : GI w L v xs) (hf : Few xs.length) (hp : PredF g I p) (hi0 : I w) (hs : ∀ w w', I w → Keep w w' L → I w') :
    Ret Try.prog 61 #[v, g] w (fun r w' => GI w' L r (xs.filter fun x => !p x) ∧ I w' ∧ Keep w w' L) := by
  refine ok61 _ _ _ _ ?_
  unfold sh61
  refine M.call_i (indexFunc_ret h.lv hf hp hi0) ?_; rintro _ w1 ⟨rfl, hI, k1⟩
  have h1 := h.keep k1 (fun _ _ _ h => h)
  have k1 : Keep w w1 L := k1.mono (fun _ _ h => h.elim)
  by_cases hn : idxI p xs = -1
  · (repeat (first | refine M.len_i ?_ | refine M.nilCheck_i ?_ | refine M.field_i ?_ | refine M.draw_i ?_ | refine M.cap_i ?_ | refine M.gd_tt ?_ | refine M.gd_ff ?_ | refine M.gd_ft ?_ | refine M.gd_tf ?_ | refine M.gd_u ?_ | refine M.pick_t ?_ | refine M.pick_f ?_ | refine M.not_t ?_ | refine M.not_f ?_ | refine M.cond_t ?_ | refine M.cond_f ?_ | refine M.eqNilP_tn ?_ | refine M.eqNilP_ts ?_ | refine M.eqNilP_fn ?_ | refine M.eqNilP_fs ?_ | refine M.eqNilS_tn ?_ | refine M.eqNilS_ts ?_ | refine M.eqNilS_fn ?_ | refine M.eqNilS_fs ?_ | refine M.lss_t (by omega) ?_ | refine M.lss_f (by omega) ?_ | refine M.leq_t (by omega) ?_ | refine M.leq_f (by omega) ?_ | refine M.gtr_t (by omega) ?_ | refine M.gtr_f (by omega) ?_ | refine M.geq_t (by omega) ?_ | refine M.geq_f (by omega) ?_ | refine M.eql_t (by omega) ?_ | refine M.eql_f (by omega) ?_ | refine M.neq_t (by omega) ?_ | refine M.neq_f (by omega) ?_ | refine M.add_i (by omega) (by omega) ?_ | refine M.sub_i (by omega) (by omega) ?_ | refine M.load_i (by assumption) ?_ | refine M.loadB_i (by assumption) rfl ?_ | refine M.st_i (by assumption) ?_ | refine M.stB_i (by assumption) rfl ?_ | refine M.gs_ff ?_ | refine M.gs_tt ?_ | refine M.gs_ft ?_ | refine M.gs_tf ?_ | refine M.stAll_i (by assumption) rfl ?_))
    have : xs.filter (fun x => !p x) = xs := by
      rw [List.filter_eq_self]
      intro x hx
      unfold idxI at hn
      cases hh : xs.findIdx? p with
      | some i => rw [hh] at hn; simp at hn
      | none => simpa using List.findIdx?_eq_none_iff.1 hh x hx
    rw [this]
    exact ⟨h1, hI, k1⟩
  · obtain ⟨i0, hi0', hb⟩ : ∃ i0 : Nat, idxI p xs = i0 ∧ xs.findIdx? p = some i0 := by
      unfold idxI at hn ⊢
      cases hh : xs.findIdx? p with
      | some i => exact ⟨i, rfl, rfl⟩
      | none => rw [hh] at hn; simp at hn
    obtain ⟨hb1, hb2, hb3⟩ := List.findIdx?_eq_some_iff_getElem.1 hb
    rw [hi0']
    obtain ⟨A, c, rfl, _, hcap⟩ := GC.row2 h1 (by omega)
    (repeat (first | refine M.len_i ?_ | refine M.nilCheck_i ?_ | refine M.field_i ?_ | refine M.draw_i ?_ | refine M.cap_i ?_ | refine M.gd_tt ?_ | refine M.gd_ff ?_ | refine M.gd_ft ?_ | refine M.gd_tf ?_ | refine M.gd_u ?_ | refine M.pick_t ?_ | refine M.pick_f ?_ | refine M.not_t ?_ | refine M.not_f ?_ | refine M.cond_t ?_ | refine M.cond_f ?_ | refine M.eqNilP_tn ?_ | refine M.eqNilP_ts ?_ | refine M.eqNilP_fn ?_ | refine M.eqNilP_fs ?_ | refine M.eqNilS_tn ?_ | refine M.eqNilS_ts ?_ | refine M.eqNilS_fn ?_ | refine M.eqNilS_fs ?_ | refine M.lss_t (by omega) ?_ | refine M.lss_f (by omega) ?_ | refine M.leq_t (by omega) ?_ | refine M.leq_f (by omega) ?_ | refine M.gtr_t (by omega) ?_ | refine M.gtr_f (by omega) ?_ | refine M.geq_t (by omega) ?_ | refine M.geq_f (by omega) ?_ | refine M.eql_t (by omega) ?_ | refine M.eql_f (by omega) ?_ | refine M.neq_t (by omega) ?_ | refine M.neq_f (by omega) ?_ | refine M.add_i (by omega) (by omega) ?_ | refine M.sub_i (by omega) (by omega) ?_ | refine M.load_i (by assumption) ?_ | refine M.loadB_i (by assumption) rfl ?_ | refine M.st_i (by assumption) ?_ | refine M.stB_i (by assumption) rfl ?_ | refine M.gs_ff ?_ | refine M.gs_tt ?_ | refine M.gs_ft ?_ | refine M.gs_tf ?_ | refine M.stAll_i (by assumption) rfl ?_))
    have e0 : (xs.take (i0 + 1)).filter (fun x => !p x) = xs.take i0 := by
      rw [List.take_succ_eq_append_getElem hb1, List.filter_append, List.filter_cons, if_neg (by simpa using hb2)]
      simp only [List.filter_nil, List.append_nil, List.filter_eq_self]
      intro x hx
      obtain ⟨j, hj1, hj2⟩ := List.mem_take_iff_getElem.1 hx
      subst hj2
      simpa using hb3 j (by omega)
    refine M.loop_i (σ := Nat × Nat × List Int) (fun s vals w' => vals = [vi s.1, vi s.2.1] ∧ s.2.1 ≤ xs.length ∧ s.1 < s.2.1 ∧ s.2.2.length = xs.length ∧ GI w' L (.slice A xs.length c) s.2.2 ∧ s.2.2.take s.1 = (xs.take s.2.1).filter (fun x => !p x) ∧ s.2.2.drop s.2.1 = xs.drop s.2.1 ∧ I w' ∧ Keep w w' L)
      (fun s => xs.length - s.2.1) (i0, i0 + 1, xs) ⟨rfl, by show i0 + 1 ≤ xs.length; omega, by show i0 < i0 + 1; omega, rfl, h1, e0.symm, rfl, hI, k1⟩ ?_
    rintro ⟨i, j, ys⟩ vals w2 K ⟨rfl, hj, hij, hl, hy, ht, hd, hI, k2⟩ hK _
    simp only at hj hij hl hy ht hd
    simp only [List.getD_cons_zero, List.getD_cons_succ]
    by_cases hlt : j < xs.length
    · obtain ⟨e, he⟩ : ∃ e, xs[j]? = some e := ⟨_, List.getElem?_eq_getElem hlt⟩
      have e1 : xs.take (j + 1) = xs.take j ++ [e] := by rw [List.take_add_one, he]; rfl
      have hey : ys[j]? = some e := by rw [drop_get hd (Nat.le_refl _)]; exact he
      (repeat (first | refine M.len_i ?_ | refine M.nilCheck_i ?_ | refine M.field_i ?_ | refine M.draw_i ?_ | refine M.cap_i ?_ | refine M.gd_tt ?_ | refine M.gd_ff ?_ | refine M.gd_ft ?_ | refine M.gd_tf ?_ | refine M.gd_u ?_ | refine M.pick_t ?_ | refine M.pick_f ?_ | refine M.not_t ?_ | refine M.not_f ?_ | refine M.cond_t ?_ | refine M.cond_f ?_ | refine M.eqNilP_tn ?_ | refine M.eqNilP_ts ?_ | refine M.eqNilP_fn ?_ | refine M.eqNilP_fs ?_ | refine M.eqNilS_tn ?_ | refine M.eqNilS_ts ?_ | refine M.eqNilS_fn ?_ | refine M.eqNilS_fs ?_ | refine M.lss_t (by omega) ?_ | refine M.lss_f (by omega) ?_ | refine M.leq_t (by omega) ?_ | refine M.leq_f (by omega) ?_ | refine M.gtr_t (by omega) ?_ | refine M.gtr_f (by omega) ?_ | refine M.geq_t (by omega) ?_ | refine M.geq_f (by omega) ?_ | refine M.eql_t (by omega) ?_ | refine M.eql_f (by omega) ?_ | refine M.neq_t (by omega) ?_ | refine M.neq_f (by omega) ?_ | refine M.add_i (by omega) (by omega) ?_ | refine M.sub_i (by omega) (by omega) ?_ | refine M.load_i (by assumption) ?_ | refine M.loadB_i (by assumption) rfl ?_ | refine M.st_i (by assumption) ?_ | refine M.stB_i (by assumption) rfl ?_ | refine M.gs_ff ?_ | refine M.gs_tt ?_ | refine M.gs_ft ?_ | refine M.gs_tf ?_ | refine M.stAll_i (by assumption) rfl ?_))
      refine M.share_j (fun vals w' => ∃ (i' : Nat) (ys' : List Int), vals = [vi i'] ∧ i' < j + 1 ∧ ys'.length = xs.length ∧ GI w' L (.slice A xs.length c) ys' ∧ ys'.take i' = (xs.take (j + 1)).filter (fun x => !p x) ∧ ys'.drop (j + 1) = xs.drop (j + 1) ∧ I w' ∧ Keep w w' L) ?_ ?_
      · rintro vals w3 ⟨i', ys', rfl, g1, g2, g3, g4, g5, g6, g7⟩ _
        simp only [List.getD_cons_zero, List.getD_cons_succ]
        (repeat (first | refine M.len_i ?_ | refine M.nilCheck_i ?_ | refine M.field_i ?_ | refine M.draw_i ?_ | refine M.cap_i ?_ | refine M.gd_tt ?_ | refine M.gd_ff ?_ | refine M.gd_ft ?_ | refine M.gd_tf ?_ | refine M.gd_u ?_ | refine M.pick_t ?_ | refine M.pick_f ?_ | refine M.not_t ?_ | refine M.not_f ?_ | refine M.cond_t ?_ | refine M.cond_f ?_ | refine M.eqNilP_tn ?_ | refine M.eqNilP_ts ?_ | refine M.eqNilP_fn ?_ | refine M.eqNilP_fs ?_ | refine M.eqNilS_tn ?_ | refine M.eqNilS_ts ?_ | refine M.eqNilS_fn ?_ | refine M.eqNilS_fs ?_ | refine M.lss_t (by omega) ?_ | refine M.lss_f (by omega) ?_ | refine M.leq_t (by omega) ?_ | refine M.leq_f (by omega) ?_ | refine M.gtr_t (by omega) ?_ | refine M.gtr_f (by omega) ?_ | refine M.geq_t (by omega) ?_ | refine M.geq_f (by omega) ?_ | refine M.eql_t (by omega) ?_ | refine M.eql_f (by omega) ?_ | refine M.neq_t (by omega) ?_ | refine M.neq_f (by omega) ?_ | refine M.add_i (by omega) (by omega) ?_ | refine M.sub_i (by omega) (by omega) ?_ | refine M.load_i (by assumption) ?_ | refine M.loadB_i (by assumption) rfl ?_ | refine M.st_i (by assumption) ?_ | refine M.stB_i (by assumption) rfl ?_ | refine M.gs_ff ?_ | refine M.gs_tt ?_ | refine M.gs_ft ?_ | refine M.gs_tf ?_ | refine M.stAll_i (by assumption) rfl ?_))
        exact hK (i', j + 1, ys') _ _ (by show xs.length - (j + 1) < xs.length - j; omega) ⟨by simp, by show j + 1 ≤ xs.length; omega, g1, g2, g3, g4, g5, g6, g7⟩
      · intro K2 hK2
        have hrow : Row w2 L A (ys.map vi) := by
          obtain ⟨A', c', e', hr, _⟩ := GC.row2 hy (by omega)
          simp only [Value.slice.injEq] at e'
          obtain ⟨rfl, _, rfl⟩ := e'
          exact hr
        refine M.idxLV_i hrow (by omega) (by omega) (by omega) (x := e) (by simpa using hey) (fun b o hA hc => ?_)
        (repeat (first | refine M.len_i ?_ | refine M.nilCheck_i ?_ | refine M.field_i ?_ | refine M.draw_i ?_ | refine M.cap_i ?_ | refine M.gd_tt ?_ | refine M.gd_ff ?_ | refine M.gd_ft ?_ | refine M.gd_tf ?_ | refine M.gd_u ?_ | refine M.pick_t ?_ | refine M.pick_f ?_ | refine M.not_t ?_ | refine M.not_f ?_ | refine M.cond_t ?_ | refine M.cond_f ?_ | refine M.eqNilP_tn ?_ | refine M.eqNilP_ts ?_ | refine M.eqNilP_fn ?_ | refine M.eqNilP_fs ?_ | refine M.eqNilS_tn ?_ | refine M.eqNilS_ts ?_ | refine M.eqNilS_fn ?_ | refine M.eqNilS_fs ?_ | refine M.lss_t (by omega) ?_ | refine M.lss_f (by omega) ?_ | refine M.leq_t (by omega) ?_ | refine M.leq_f (by omega) ?_ | refine M.gtr_t (by omega) ?_ | refine M.gtr_f (by omega) ?_ | refine M.geq_t (by omega) ?_ | refine M.geq_f (by omega) ?_ | refine M.eql_t (by omega) ?_ | refine M.eql_f (by omega) ?_ | refine M.neq_t (by omega) ?_ | refine M.neq_f (by omega) ?_ | refine M.add_i (by omega) (by omega) ?_ | refine M.sub_i (by omega) (by omega) ?_ | refine M.load_i (by assumption) ?_ | refine M.loadB_i (by assumption) rfl ?_ | refine M.st_i (by assumption) ?_ | refine M.stB_i (by assumption) rfl ?_ | refine M.gs_ff ?_ | refine M.gs_tt ?_ | refine M.gs_ft ?_ | refine M.gs_tf ?_ | refine M.stAll_i (by assumption) rfl ?_))
        refine hp e _ _ hI (fun w3 hI k3 => ?_)
        have hy3 := hy.keep k3 (fun _ _ _ h => h)
        have k23 : Keep w w3 L := k2.trans k3 (fun _ _ h => h.elim)
        refine M.not_i ?_
        refine M.condB_i (fun hx => ?_) (fun hx => ?_)
        · refine M.idxStore_i hy3 (by omega) (by omega) (fun w4 g4 k4 s4 => ?_)
          (repeat (first | refine M.len_i ?_ | refine M.nilCheck_i ?_ | refine M.field_i ?_ | refine M.draw_i ?_ | refine M.cap_i ?_ | refine M.gd_tt ?_ | refine M.gd_ff ?_ | refine M.gd_ft ?_ | refine M.gd_tf ?_ | refine M.gd_u ?_ | refine M.pick_t ?_ | refine M.pick_f ?_ | refine M.not_t ?_ | refine M.not_f ?_ | refine M.cond_t ?_ | refine M.cond_f ?_ | refine M.eqNilP_tn ?_ | refine M.eqNilP_ts ?_ | refine M.eqNilP_fn ?_ | refine M.eqNilP_fs ?_ | refine M.eqNilS_tn ?_ | refine M.eqNilS_ts ?_ | refine M.eqNilS_fn ?_ | refine M.eqNilS_fs ?_ | refine M.lss_t (by omega) ?_ | refine M.lss_f (by omega) ?_ | refine M.leq_t (by omega) ?_ | refine M.leq_f (by omega) ?_ | refine M.gtr_t (by omega) ?_ | refine M.gtr_f (by omega) ?_ | refine M.geq_t (by omega) ?_ | refine M.geq_f (by omega) ?_ | refine M.eql_t (by omega) ?_ | refine M.eql_f (by omega) ?_ | refine M.neq_t (by omega) ?_ | refine M.neq_f (by omega) ?_ | refine M.add_i (by omega) (by omega) ?_ | refine M.sub_i (by omega) (by omega) ?_ | refine M.load_i (by assumption) ?_ | refine M.loadB_i (by assumption) rfl ?_ | refine M.st_i (by assumption) ?_ | refine M.stB_i (by assumption) rfl ?_ | refine M.gs_ff ?_ | refine M.gs_tt ?_ | refine M.gs_ft ?_ | refine M.gs_tf ?_ | refine M.stAll_i (by assumption) rfl ?_))
          rw [Int.toNat_natCast] at g4
          refine hK2 _ _ ⟨i + 1, ys.set i e, by simp, by omega, by simpa using hl, g4, ?_, ?_, hs _ _ hI k4, k23.trans k4 (fun _ _ h => h)⟩
          · rw [set_take e (by omega), ht, e1, List.filter_append, List.filter_cons, if_pos hx]; rfl
          · rw [set_drop e (by omega)]
            exact drop_more hd (by omega)
        · refine hK2 _ _ ⟨i, ys, rfl, by omega, hl, hy3, ?_, drop_more hd (by omega), hI, k23⟩
          rw [ht, e1, List.filter_append, List.filter_cons, if_neg (by simpa using hx)]; simp
    · have hjx : j = xs.length := by omega
      subst hjx
      rw [List.take_length] at ht
      (repeat (first | refine M.len_i ?_ | refine M.nilCheck_i ?_ | refine M.field_i ?_ | refine M.draw_i ?_ | refine M.cap_i ?_ | refine M.gd_tt ?_ | refine M.gd_ff ?_ | refine M.gd_ft ?_ | refine M.gd_tf ?_ | refine M.gd_u ?_ | refine M.pick_t ?_ | refine M.pick_f ?_ | refine M.not_t ?_ | refine M.not_f ?_ | refine M.cond_t ?_ | refine M.cond_f ?_ | refine M.eqNilP_tn ?_ | refine M.eqNilP_ts ?_ | refine M.eqNilP_fn ?_ | refine M.eqNilP_fs ?_ | refine M.eqNilS_tn ?_ | refine M.eqNilS_ts ?_ | refine M.eqNilS_fn ?_ | refine M.eqNilS_fs ?_ | refine M.lss_t (by omega) ?_ | refine M.lss_f (by omega) ?_ | refine M.leq_t (by omega) ?_ | refine M.leq_f (by omega) ?_ | refine M.gtr_t (by omega) ?_ | refine M.gtr_f (by omega) ?_ | refine M.geq_t (by omega) ?_ | refine M.geq_f (by omega) ?_ | refine M.eql_t (by omega) ?_ | refine M.eql_f (by omega) ?_ | refine M.neq_t (by omega) ?_ | refine M.neq_f (by omega) ?_ | refine M.add_i (by omega) (by omega) ?_ | refine M.sub_i (by omega) (by omega) ?_ | refine M.load_i (by assumption) ?_ | refine M.loadB_i (by assumption) rfl ?_ | refine M.st_i (by assumption) ?_ | refine M.stB_i (by assumption) rfl ?_ | refine M.gs_ff ?_ | refine M.gs_tt ?_ | refine M.gs_ft ?_ | refine M.gs_tf ?_ | refine M.stAll_i (by assumption) rfl ?_))
      rw [← hl] at hy
      refine tail_out (by kernel_rfl) (fun w => Try.zeroValue3 w) hl.symm hy (by omega) ht (fun r w3 g3 k3 => ?_)
      exact ⟨g3, hs _ _ hI k3, k2.trans k3 (fun _ _ h => h)⟩
end Go.Proofs.Ytfkbacoiocniaaa
