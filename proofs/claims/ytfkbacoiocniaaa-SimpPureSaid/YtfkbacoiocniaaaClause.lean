import Derived.Test.YtfkbacoiocniaaaCompact
import Derived.Test.YtfkbacoiocniaaaSort
import Derived.Test.YtfkbacoiocniaaaRes03
namespace Go.Proofs.Ytfkbacoiocniaaa
open Go.Mw
set_option linter.unusedVariables false
set_option linter.unusedSimpArgs false
set_option maxRecDepth 100000
attribute [local irreducible] M.val M.unit M.next M.pick M.new M.nilCheck M.load1 M.loadA M.store M.fieldAddr M.indexSl M.indexArr M.slice M.makeSlice M.buildSlice M.len M.lenS M.cap M.append M.extract M.conv M.not M.neg M.bin M.shift M.eqB M.eqNil M.call M.callv M.gd M.share M.cond M.loop M.draw pureW readW Ret
/-! breakwater/clause.copied: function 47 -/
def sh47 (x0 : Value) (R : Kt) (w : World) : Prop :=
  M.len x0 (fun t5 w =>
  M.makeSlice 3 1 8 #[.int .i64 0] t5 t5 (fun t6 w =>
  M.next Try.prog (builtin .copy #[22, 22] 3 #[false, false] #[t6, x0]) (fun t9 w =>
  R t6 w) w) w) w
theorem ok47 (x0 : Value) (R : Kt) (w : World) (h : sh47 x0 R w) : Ret Try.prog 47 #[x0] w R :=
  ret_mk <| calls_of_comp mixed (c := Try.f47.body.getD .skip) (args := [x0]) (rs := [(ResultVar.tmp 2)]) (Ann.seq Ann.text (Ann.seq Ann.text (Ann.seq Ann.text (Ann.seq Ann.text Ann.leaf))))
    Try.func47 (by kernel_rfl) (by kernel_rfl)
    (Eq.mp (by kernel_rfl) h)
/-! breakwater/clause.Normal: function 14 -/
def sh14 (x0 : Value) (R : Kt) (w : World) : Prop :=
  M.call Try.prog 47 #[x0] (fun t8 w =>
  M.call Try.prog 48 #[t8] (fun t10 w =>
  M.call Try.prog 49 #[t8] (fun t12 w =>
  M.len t12 (fun t14 w =>
  M.bin .gtr t14 (Value.int IntKind.i64 0) (fun t15 w =>
  M.gd t15 true (fun k w => k t12 w) (fun t17 w =>
  M.gd t15 true (fun k w => M.indexSl 1 t17 (Value.int IntKind.i64 0) k w) (fun t18 w =>
  M.gd t15 true (fun k w => M.load1 t18 k w) (fun t19 w =>
  M.gd t15 true (fun k w => M.bin .lss t19 (Value.int IntKind.i64 0) k w) (fun t20 w =>
  M.pick t15 t20 (Value.bool false) (fun t21 w =>
  M.cond t21
  (R (.tuple #[(Value.slice none 0 0), (Value.bool false), (Value.int IntKind.i64 10)]) w)
  (M.len t12 (fun t23 w =>
  M.loop [(Value.int IntKind.i64 0)] (fun s1 K1 w => ∀ _ : List Value,
  M.bin .lss (s1.getD 0 undef) t23 (fun t25 w =>
  M.cond t25
  (M.draw (fun w =>
  M.bin .gtr (s1.getD 0 undef) (Value.int IntKind.i64 0) (fun t28 w =>
  M.gd t28 true (fun k w => k t12 w) (fun t30 w =>
  M.gd t28 true (fun k w => k (s1.getD 0 undef) w) (fun t31 w =>
  M.gd t28 true (fun k w => M.indexSl 1 t30 t31 k w) (fun t32 w =>
  M.gd t28 true (fun k w => M.load1 t32 k w) (fun t33 w =>
  M.gd t28 true (fun k w => k t12 w) (fun t35 w =>
  M.gd t28 true (fun k w => k (s1.getD 0 undef) w) (fun t36 w =>
  M.gd t28 true (fun k w => M.bin .sub t36 (Value.int IntKind.i64 1) k w) (fun t37 w =>
  M.gd t28 true (fun k w => M.indexSl 1 t35 t37 k w) (fun t38 w =>
  M.gd t28 true (fun k w => M.load1 t38 k w) (fun t39 w =>
  M.gd t28 true (fun k w => M.call Try.prog 50 #[t33] k w) (fun t34 w =>
  ((M.gd t28 true (fun k w => M.load1 t38 k w) (fun v' _ => v' = t39) w) ∧ M.gd t28 true (fun k w => M.bin .eql t34 t39 k w) (fun t40 w =>
  M.pick t28 t40 (Value.bool false) (fun t41 w =>
  M.cond t41
  (R (.tuple #[t12, (Value.bool true), (Value.int IntKind.i64 0)]) w)
  (M.bin .add (s1.getD 0 undef) (Value.int IntKind.i64 1) (fun t43 w =>
  K1 [t43] w) w)) w) w)) w) w) w) w) w) w) w) w) w) w) w) w)
  (R (.tuple #[t12, (Value.bool false), (Value.int IntKind.i64 0)]) w)) w) w) w)) w) w) w) w) w) w) w) w) w) w
theorem ok14 (x0 : Value) (R : Kt) (w : World) (h : sh14 x0 R w) : Ret Try.prog 14 #[x0] w R :=
  ret_mk <| calls_of_comp mixed (c := Try.f14.body.getD .skip) (args := [x0]) (rs := [(ResultVar.tmp 2), (ResultVar.tmp 3), (ResultVar.tmp 4)]) (Ann.seq Ann.text (Ann.seq Ann.text (Ann.seq Ann.text (Ann.seq Ann.text (Ann.seq (Ann.seq Ann.text (Ann.cond (Ann.seq Ann.text Ann.leaf) Ann.leaf)) (Ann.seq (Ann.seq Ann.text (Ann.block (Ann.loop [24] [2, 3, 4, 6, 25, 26, 27, 28, 29, 30, 31, 32, 33, 34, 35, 36, 37, 38, 39, 40, 41, 42, 43] (Ann.seq Ann.text (Ann.seq (Ann.cond Ann.leaf Ann.leaf) (Ann.seq (Ann.block (Ann.seq Ann.text (Ann.seq (Ann.draw (Sch.take 0 (Sch.take 1 (Sch.take 2 (Sch.take 3 (Sch.take 4 (Sch.take 5 (Sch.take 6 (Sch.take 8 (Sch.take 9 (Sch.take 10 (Sch.take 11 (Sch.take 12 (Sch.one 7 (Sch.take 13 (Sch.take 14 Sch.done)))))))))))))))) (Ann.cond (Ann.seq Ann.text Ann.leaf) Ann.leaf)))) Ann.text)))))) (Ann.seq Ann.text Ann.leaf)))))))
    Try.func14 (by kernel_rfl) (by kernel_rfl)
    (Eq.mp (by kernel_rfl) h)
/-! breakwater/clause.Holds: function 17 -/
def sh17 (x0 x1 : Value) (R : Kt) (w : World) : Prop :=
  M.new 31 (Value.cells x1) (fun t3 w =>
  M.call Try.prog 53 #[x0, (.func (Fn.func 54) #[] #[t3])] (fun t7 w =>
  R t7 w) w) w
theorem ok17 (x0 x1 : Value) (R : Kt) (w : World) (h : sh17 x0 x1 R w) : Ret Try.prog 17 #[x0, x1] w R :=
  ret_mk <| calls_of_comp mixed (c := Try.f17.body.getD .skip) (args := [x0, x1]) (rs := [(ResultVar.tmp 4)]) (Ann.seq Ann.text (Ann.seq Ann.text Ann.leaf))
    Try.func17 (by kernel_rfl) (by kernel_rfl)
    (Eq.mp (by kernel_rfl) h)
/-! breakwater/clause.Holds$1: function 54 -/
def sh54 (x0 x1 : Value) (R : Kt) (w : World) : Prop :=
  M.load1 x1 (fun t5 w =>
  M.call Try.prog 55 #[x0, t5] (fun t6 w =>
  R t6 w) w) w
theorem ok54 (x0 x1 : Value) (R : Kt) (w : World) (h : sh54 x0 x1 R w) : Ret Try.prog 54 #[x0, x1] w R :=
  ret_mk <| calls_of_comp mixed (c := Try.f54.body.getD .skip) (args := [x0, x1]) (rs := [(ResultVar.tmp 3)]) (Ann.seq Ann.text (Ann.seq Ann.text Ann.leaf))
    Try.func54 (by kernel_rfl) (by kernel_rfl)
    (Eq.mp (by kernel_rfl) h)
/-! breakwater/clause.Has: function 19 -/
def sh19 (x0 x1 : Value) (R : Kt) (w : World) : Prop :=
  M.call Try.prog 57 #[x0, x1] (fun t7 w =>
  R t7 w) w
theorem ok19 (x0 x1 : Value) (R : Kt) (w : World) (h : sh19 x0 x1 R w) : Ret Try.prog 19 #[x0, x1] w R :=
  ret_mk <| calls_of_comp mixed (c := Try.f19.body.getD .skip) (args := [x0, x1]) (rs := [(ResultVar.tmp 4)]) (Ann.seq Ann.text (Ann.seq Ann.text Ann.leaf))
    Try.func19 (by kernel_rfl) (by kernel_rfl)
    (Eq.mp (by kernel_rfl) h)
/-! breakwater/clause.Within: function 21 -/
def sh21 (x0 x1 : Value) (R : Kt) (w : World) : Prop :=
  M.new 22 (Value.cells x1) (fun t3 w =>
  M.call Try.prog 53 #[x0, (.func (Fn.func 58) #[] #[t3])] (fun t7 w =>
  M.not t7 (fun t8 w =>
  R t8 w) w) w) w
theorem ok21 (x0 x1 : Value) (R : Kt) (w : World) (h : sh21 x0 x1 R w) : Ret Try.prog 21 #[x0, x1] w R :=
  ret_mk <| calls_of_comp mixed (c := Try.f21.body.getD .skip) (args := [x0, x1]) (rs := [(ResultVar.tmp 4)]) (Ann.seq Ann.text (Ann.seq Ann.text Ann.leaf))
    Try.func21 (by kernel_rfl) (by kernel_rfl)
    (Eq.mp (by kernel_rfl) h)
/-! breakwater/clause.Within$1: function 58 -/
def sh58 (x0 x1 : Value) (R : Kt) (w : World) : Prop :=
  M.load1 x1 (fun t4 w =>
  M.call Try.prog 19 #[t4, x0] (fun t6 w =>
  M.not t6 (fun t7 w =>
  R t7 w) w) w) w
theorem ok58 (x0 x1 : Value) (R : Kt) (w : World) (h : sh58 x0 x1 R w) : Ret Try.prog 58 #[x0, x1] w R :=
  ret_mk <| calls_of_comp mixed (c := Try.f58.body.getD .skip) (args := [x0, x1]) (rs := [(ResultVar.tmp 3)]) (Ann.seq Ann.text (Ann.seq Ann.text Ann.leaf))
    Try.func58 (by kernel_rfl) (by kernel_rfl)
    (Eq.mp (by kernel_rfl) h)
/-! breakwater/clause.Resolve: function 23 -/
def sh23 (x0 x1 x2 : Value) (R : Kt) (w : World) : Prop :=
  M.new 3 (Value.cells x2) (fun t5 w =>
  M.call Try.prog 14 #[x0] (fun t15 w =>
  M.extract 0 t15 (fun t16 w =>
  M.extract 1 t15 (fun t17 w =>
  M.extract 2 t15 (fun t18 w =>
  M.bin .neq t18 (Value.int IntKind.i64 0) (fun t20 w =>
  M.cond t20
  (R (.tuple #[(Value.slice none 0 0), t18]) w)
  (M.call Try.prog 14 #[x1] (fun t24 w =>
  M.extract 0 t24 (fun t25 w =>
  M.extract 1 t24 (fun t26 w =>
  M.extract 2 t24 (fun t27 w =>
  M.bin .neq t27 (Value.int IntKind.i64 0) (fun t29 w =>
  M.cond t29
  (R (.tuple #[(Value.slice none 0 0), t27]) w)
  (M.load1 t5 (fun t31 w =>
  M.bin .lss t31 (Value.int IntKind.i64 0) (fun t32 w =>
  M.cond t32
  (R (.tuple #[(Value.slice none 0 0), (Value.int IntKind.i64 9)]) w)
  (M.callv Try.prog (.func (Fn.func 59) #[] #[t5]) #[(Value.bool false)] (fun t36 w =>
  M.call Try.prog 53 #[t16, t36] (fun t37 w =>
  M.not t37 (fun t38 w =>
  M.gd t38 false (fun k w => k t25 w) (fun t40 w =>
  M.gd t38 false (fun k w => k (.func (Fn.func 59) #[] #[t5]) w) (fun t41 w =>
  M.gd t38 false (fun k w => M.callv Try.prog t41 #[(Value.bool true)] k w) (fun t42 w =>
  M.gd t38 false (fun k w => M.call Try.prog 53 #[t40, t42] k w) (fun t43 w =>
  M.gd t38 false (fun k w => M.not t43 k w) (fun t44 w =>
  M.pick t38 (Value.bool true) t44 (fun t45 w =>
  M.cond t45
  (R (.tuple #[(Value.slice none 0 0), (Value.int IntKind.i64 9)]) w)
  (M.callv Try.prog (.func (Fn.func 59) #[] #[t5]) #[(Value.bool false)] (fun t49 w =>
  M.call Try.prog 61 #[t16, t49] (fun t50 w =>
  M.callv Try.prog (.func (Fn.func 59) #[] #[t5]) #[(Value.bool true)] (fun t53 w =>
  M.call Try.prog 61 #[t25, t53] (fun t54 w =>
  M.append 3 1 8 #[.int .i64 0] t50 t54 (fun t55 w =>
  M.call Try.prog 14 #[t55] (fun t56 w =>
  M.extract 0 t56 (fun t57 w =>
  M.extract 1 t56 (fun t58 w =>
  M.extract 2 t56 (fun t59 w =>
  R (.tuple #[t57, t59]) w) w) w) w) w) w) w) w) w) w)) w) w) w) w) w) w) w) w) w)) w) w)) w) w) w) w) w)) w) w) w) w) w) w
theorem ok23 (x0 x1 x2 : Value) (R : Kt) (w : World) (h : sh23 x0 x1 x2 R w) : Ret Try.prog 23 #[x0, x1, x2] w R :=
  ret_mk <| calls_of_comp mixed (c := Try.f23.body.getD .skip) (args := [x0, x1, x2]) (rs := [(ResultVar.tmp 6), (ResultVar.tmp 7)]) (Ann.seq Ann.text (Ann.seq Ann.text (Ann.seq (Ann.seq Ann.text (Ann.cond (Ann.seq Ann.text Ann.leaf) Ann.leaf)) (Ann.seq Ann.text (Ann.seq (Ann.seq Ann.text (Ann.cond (Ann.seq Ann.text Ann.leaf) Ann.leaf)) (Ann.seq (Ann.seq Ann.text (Ann.cond (Ann.seq Ann.text Ann.leaf) Ann.leaf)) (Ann.seq Ann.text (Ann.seq (Ann.seq Ann.text (Ann.cond (Ann.seq Ann.text Ann.leaf) Ann.leaf)) (Ann.seq Ann.text (Ann.seq Ann.text Ann.leaf))))))))))
    Try.func23 (by kernel_rfl) (by kernel_rfl)
    (Eq.mp (by kernel_rfl) h)
/-! breakwater/clause.Resolve$1: function 59 -/
def sh59 (x0 x1 : Value) (R : Kt) (w : World) : Prop :=
  M.new 4 (Value.cells x0) (fun t2 w =>
  R (.func (Fn.func 60) #[] #[x1, t2]) w) w
theorem ok59 (x0 x1 : Value) (R : Kt) (w : World) (h : sh59 x0 x1 R w) : Ret Try.prog 59 #[x0, x1] w R :=
  ret_mk <| calls_of_comp mixed (c := Try.f59.body.getD .skip) (args := [x0, x1]) (rs := [(ResultVar.tmp 3)]) (Ann.seq Ann.text (Ann.seq Ann.text Ann.leaf))
    Try.func59 (by kernel_rfl) (by kernel_rfl)
    (Eq.mp (by kernel_rfl) h)
/-! breakwater/clause.Resolve$1$1: function 60 -/
def sh60 (x0 x1 x2 : Value) (R : Kt) (w : World) : Prop :=
  M.draw (fun w =>
  M.load1 x1 (fun t7 w =>
  M.call Try.prog 25 #[x0] (fun t6 w =>
  ((M.load1 x1 (fun v' _ => v' = t7) w) ∧ M.bin .eql t6 t7 (fun t8 w =>
  M.gd t8 true (fun k w => k x0 w) (fun t10 w =>
  M.gd t8 true (fun k w => M.load1 x2 k w) (fun t12 w =>
  M.gd t8 true (fun k w => M.call Try.prog 26 #[t10] k w) (fun t11 w =>
  ((M.gd t8 true (fun k w => M.load1 x2 k w) (fun v' _ => v' = t12) w) ∧ ((M.load1 x1 (fun v' _ => v' = t7) w) ∧ M.gd t8 true (fun k w => M.eqB false t11 t12 k w) (fun t13 w =>
  M.pick t8 t13 (Value.bool false) (fun t14 w =>
  R t14 w) w) w))) w) w) w) w)) w) w) w
theorem ok60 (x0 x1 x2 : Value) (R : Kt) (w : World) (h : sh60 x0 x1 x2 R w) : Ret Try.prog 60 #[x0, x1, x2] w R :=
  ret_mk <| calls_of_comp mixed (c := Try.f60.body.getD .skip) (args := [x0, x1, x2]) (rs := [(ResultVar.tmp 4)]) (Ann.seq Ann.text (Ann.seq (Ann.draw (Sch.take 0 (Sch.take 2 (Sch.one 1 (Sch.take 3 (Sch.take 4 (Sch.take 5 (Sch.take 7 (Sch.one 6 (Sch.take 8 (Sch.take 9 (Sch.take 10 Sch.done)))))))))))) Ann.leaf))
    Try.func60 (by kernel_rfl) (by kernel_rfl)
    (Eq.mp (by kernel_rfl) h)

theorem copied_ret {w : World} {D : Nat → Prop} {u : Value} {xs : List Int} (h : LV vi w D u xs) (hf : Few xs.length) :
    Ret Try.prog 47 #[u] w (fun r w' => GI w' (w.heap.size ≤ ·) r xs ∧ Keep w w' No) := by
  obtain ⟨A, c, rfl, hr, hc⟩ := h
  refine ok47 _ _ _ ?_
  unfold sh47
  (repeat (first | refine M.len_i ?_ | refine M.nilCheck_i ?_ | refine M.field_i ?_ | refine M.draw_i ?_ | refine M.cap_i ?_ | refine M.gd_tt ?_ | refine M.gd_ff ?_ | refine M.gd_ft ?_ | refine M.gd_tf ?_ | refine M.gd_u ?_ | refine M.pick_t ?_ | refine M.pick_f ?_ | refine M.not_t ?_ | refine M.not_f ?_ | refine M.cond_t ?_ | refine M.cond_f ?_ | refine M.eqNilP_tn ?_ | refine M.eqNilP_ts ?_ | refine M.eqNilP_fn ?_ | refine M.eqNilP_fs ?_ | refine M.eqNilS_tn ?_ | refine M.eqNilS_ts ?_ | refine M.eqNilS_fn ?_ | refine M.eqNilS_fs ?_ | refine M.lss_t (by omega) ?_ | refine M.lss_f (by omega) ?_ | refine M.leq_t (by omega) ?_ | refine M.leq_f (by omega) ?_ | refine M.gtr_t (by omega) ?_ | refine M.gtr_f (by omega) ?_ | refine M.geq_t (by omega) ?_ | refine M.geq_f (by omega) ?_ | refine M.eql_t (by omega) ?_ | refine M.eql_f (by omega) ?_ | refine M.neq_t (by omega) ?_ | refine M.neq_f (by omega) ?_ | refine M.add_i (by omega) (by omega) ?_ | refine M.sub_i (by omega) (by omega) ?_ | refine M.load_i (by assumption) ?_ | refine M.loadB_i (by assumption) rfl ?_ | refine M.st_i (by assumption) ?_ | refine M.stB_i (by assumption) rfl ?_ | refine M.gs_ff ?_ | refine M.gs_tt ?_ | refine M.gs_ft ?_ | refine M.gs_tf ?_ | refine M.stAll_i (by assumption) rfl ?_))
  refine M.makeSlice_i rfl rfl (by omega) (by omega) (fun w1 hb k1 s1 => ?_)
  have hr := hr.keep k1 (fun _ _ _ h => h)
  have g1 := GI.of_rep (x := 0) (L := fun b => w.heap.size ≤ b) hb (Nat.le_refl _)
  rw [show xs.length = (List.replicate xs.length (0 : Int)).length by simp] at g1
  refine M.copy_i (elem := 3) (by kernel_rfl) (by kernel_rfl) (h := by simpa using g1) hr (by simp) (fun w2 g2 k2 s2 => ?_)
  exact ⟨g2, k1.trans k2 (fun b hb h => by omega)⟩
/-- A clause as it should be: what the program's Normal answers. -/
theorem neg_srt (xs : List Int) : xs.any (decide <| · < 0) = match srt xs with
    | [] => false
    | x :: _ => decide (x < 0) := by
  cases h : srt xs with
  | nil =>
    rw [List.any_eq_false]
    intro x hx
    have := (mem_srt xs x).2 hx
    rw [h] at this
    simp at this
  | cons y l =>
    have hlt := srt_lt xs
    rw [h] at hlt
    obtain ⟨h1, _⟩ := List.pairwise_cons.1 hlt
    by_cases hy : y < 0
    · simp only [hy, decide_true]
      exact List.any_eq_true.2 ⟨y, (mem_srt xs y).1 (by rw [h]; exact List.mem_cons_self), by simpa using hy⟩
    · simp only [hy, decide_false]
      rw [List.any_eq_false]
      intro x hx hneg
      have hneg : x < 0 := by simpa using hneg
      have := (mem_srt xs x).2 hx
      rw [h] at this
      rcases List.mem_cons.1 this with rfl | hm
      · exact hy hneg
      · have := h1 x hm; omega
/-- Of a rising list without negatives: a literal and its Not lie side by side. -/
theorem side {l : List Int} (hl : l.Pairwise (· < ·)) (h0 : ∀ x ∈ l, ¬ x < 0) : l.any (fun x => decide (notOf x ∈ l)) = true ↔ ∃ (i : Nat) (x y : Int), l[i]? = some y ∧ l[i + 1]? = some x ∧ notOf x = y := by
  constructor
  · intro h
    obtain ⟨x, hx, hn⟩ := List.any_eq_true.1 h
    have hn : notOf x ∈ l := by simpa using hn
    have hx0 := h0 x hx
    have key : ∀ a b : Int, a ∈ l → b ∈ l → b = a + 1 → ∃ i : Nat, l[i]? = some a ∧ l[i + 1]? = some b := by
      intro a b ha hb hab
      obtain ⟨i, hi⟩ := List.mem_iff_getElem?.1 ha
      obtain ⟨j, hj⟩ := List.mem_iff_getElem?.1 hb
      obtain ⟨i1, i2⟩ := List.getElem?_eq_some_iff.1 hi
      obtain ⟨j1, j2⟩ := List.getElem?_eq_some_iff.1 hj
      have hp := List.pairwise_iff_getElem.1 hl
      have hij : i < j := by
        rcases Nat.lt_trichotomy i j with h | h | h
        · exact h
        · subst h; omega
        · have := hp j i j1 i1 h; omega
      have hj : j = i + 1 := by
        rcases Nat.lt_or_ge (i + 1) j with h | h
        · have hm : i + 1 < l.length := by omega
          have a1 := hp i (i + 1) i1 hm (by omega)
          have a2 := hp (i + 1) j hm j1 h
          omega
        · omega
      subst hj
      exact ⟨i, hi, hj⟩
    by_cases hpar : x % 2 = 0
    · have e : notOf x = x + 1 := by simp [notOf, hx0, flip1, hpar]
      rw [e] at hn
      obtain ⟨i, h1, h2⟩ := key x (x + 1) hx hn rfl
      refine ⟨i, x + 1, x, h1, h2, ?_⟩
      have : ¬ x + 1 < 0 := by omega
      have h3 : ¬ (x + 1) % 2 = 0 := by omega
      simp [notOf, this, flip1, h3]
    · have e : notOf x = x - 1 := by simp [notOf, hx0, flip1, hpar]
      rw [e] at hn
      obtain ⟨i, h1, h2⟩ := key (x - 1) x hn hx (by omega)
      exact ⟨i, x, x - 1, h1, h2, e⟩
  · rintro ⟨i, x, y, h1, h2, h3⟩
    refine List.any_eq_true.2 ⟨x, List.mem_of_getElem? h2, ?_⟩
    rw [h3]
    simpa using List.mem_of_getElem? h1
theorem any_srt (xs : List Int) : (srt xs).any (fun x => decide (notOf x ∈ srt xs)) = xs.any (fun x => decide (notOf x ∈ xs)) := by
  have e : ∀ x, decide (notOf x ∈ srt xs) = decide (notOf x ∈ xs) := fun x => by
    have := mem_srt xs (notOf x)
    by_cases h : notOf x ∈ xs
    · simp [h, this.2 h]
    · simp [h, this]
  simp only [e]
  cases h : xs.any (fun x => decide (notOf x ∈ xs)) with
  | true =>
    obtain ⟨x, hx, h1⟩ := List.any_eq_true.1 h
    exact List.any_eq_true.2 ⟨x, (mem_srt _ _).2 hx, h1⟩
  | false =>
    rw [List.any_eq_false] at h ⊢
    exact fun x hx => h x ((mem_srt _ _).1 hx)
theorem srt_sort (xs : List Int) : srt (xs.mergeSort leI) = srt xs := eq_srt (srt_lt _) (fun y => by rw [mem_srt, List.mem_mergeSort])
set_option maxHeartbeats 1000000 in
theorem normal_ret {w : World} {D : Nat → Prop} {u : Value} {xs : List Int} (h : LV vi w D u xs) (hf : Few xs.length) (hI : ∀ x ∈ xs, I64 x) :
    Ret Try.prog 14 #[u] w (fun r w' => ∃ v, r = .tuple #[v, .bool (normD xs).2.1, vi (normD xs).2.2] ∧ GI w' (w.heap.size ≤ ·) v (normD xs).1 ∧ Keep w w' No) := by
  refine ok14 _ _ _ ?_
  unfold sh14
  refine M.call_i (copied_ret h hf) ?_; rintro o1 w1 ⟨g1, k1⟩
  refine M.call_i (sort_ret g1 (by omega)) ?_; rintro _ w2 ⟨rfl, g2, k2⟩
  refine M.call_i (compact_ret g2 (by simpa using hf) (sort_le xs)) ?_; rintro o3 w3 ⟨g3, k3⟩
  rw [srt_sort] at g3
  have k13 : Keep w w3 No := (k1.trans k2 (fun b hb h => by omega)).trans k3 (fun b hb h => by omega)
  have hlen := len_srt xs
  have hns := neg_srt xs
  obtain ⟨A3, c3, rfl, r3, _⟩ := GC.row2 g3 (by omega)
  have hI3 : ∀ x ∈ srt xs, I64 x := fun x hx => hI x ((mem_srt _ _).1 hx)
  have nd : normD xs = if xs.any (decide <| · < 0) then ([], false, 10) else (srt xs, (srt xs).any (fun x => decide (notOf x ∈ srt xs)), 0) := by
    unfold normD; rw [any_srt]
  have hsl := srt_lt xs
  generalize hys : srt xs = ys at *
  rw [nd]
  clear nd g1 g2 h
  (repeat (first | refine M.len_i ?_ | refine M.nilCheck_i ?_ | refine M.field_i ?_ | refine M.draw_i ?_ | refine M.cap_i ?_ | refine M.gd_tt ?_ | refine M.gd_ff ?_ | refine M.gd_ft ?_ | refine M.gd_tf ?_ | refine M.gd_u ?_ | refine M.pick_t ?_ | refine M.pick_f ?_ | refine M.not_t ?_ | refine M.not_f ?_ | refine M.cond_t ?_ | refine M.cond_f ?_ | refine M.eqNilP_tn ?_ | refine M.eqNilP_ts ?_ | refine M.eqNilP_fn ?_ | refine M.eqNilP_fs ?_ | refine M.eqNilS_tn ?_ | refine M.eqNilS_ts ?_ | refine M.eqNilS_fn ?_ | refine M.eqNilS_fs ?_ | refine M.lss_t (by omega) ?_ | refine M.lss_f (by omega) ?_ | refine M.leq_t (by omega) ?_ | refine M.leq_f (by omega) ?_ | refine M.gtr_t (by omega) ?_ | refine M.gtr_f (by omega) ?_ | refine M.geq_t (by omega) ?_ | refine M.geq_f (by omega) ?_ | refine M.eql_t (by omega) ?_ | refine M.eql_f (by omega) ?_ | refine M.neq_t (by omega) ?_ | refine M.neq_f (by omega) ?_ | refine M.add_i (by omega) (by omega) ?_ | refine M.sub_i (by omega) (by omega) ?_ | refine M.load_i (by assumption) ?_ | refine M.loadB_i (by assumption) rfl ?_ | refine M.st_i (by assumption) ?_ | refine M.stB_i (by assumption) rfl ?_ | refine M.gs_ff ?_ | refine M.gs_tt ?_ | refine M.gs_ft ?_ | refine M.gs_tf ?_ | refine M.stAll_i (by assumption) rfl ?_))
  by_cases hy0 : 0 < ys.length
  · obtain ⟨y, l, rfl⟩ : ∃ y l, ys = y :: l := by
      cases ys with
      | nil => simp at hy0
      | cons y l => exact ⟨y, l, rfl⟩
    simp only at hns
    (repeat (first | refine M.len_i ?_ | refine M.nilCheck_i ?_ | refine M.field_i ?_ | refine M.draw_i ?_ | refine M.cap_i ?_ | refine M.gd_tt ?_ | refine M.gd_ff ?_ | refine M.gd_ft ?_ | refine M.gd_tf ?_ | refine M.gd_u ?_ | refine M.pick_t ?_ | refine M.pick_f ?_ | refine M.not_t ?_ | refine M.not_f ?_ | refine M.cond_t ?_ | refine M.cond_f ?_ | refine M.eqNilP_tn ?_ | refine M.eqNilP_ts ?_ | refine M.eqNilP_fn ?_ | refine M.eqNilP_fs ?_ | refine M.eqNilS_tn ?_ | refine M.eqNilS_ts ?_ | refine M.eqNilS_fn ?_ | refine M.eqNilS_fs ?_ | refine M.lss_t (by omega) ?_ | refine M.lss_f (by omega) ?_ | refine M.leq_t (by omega) ?_ | refine M.leq_f (by omega) ?_ | refine M.gtr_t (by omega) ?_ | refine M.gtr_f (by omega) ?_ | refine M.geq_t (by omega) ?_ | refine M.geq_f (by omega) ?_ | refine M.eql_t (by omega) ?_ | refine M.eql_f (by omega) ?_ | refine M.neq_t (by omega) ?_ | refine M.neq_f (by omega) ?_ | refine M.add_i (by omega) (by omega) ?_ | refine M.sub_i (by omega) (by omega) ?_ | refine M.load_i (by assumption) ?_ | refine M.loadB_i (by assumption) rfl ?_ | refine M.st_i (by assumption) ?_ | refine M.stB_i (by assumption) rfl ?_ | refine M.gs_ff ?_ | refine M.gs_tt ?_ | refine M.gs_ft ?_ | refine M.gs_tf ?_ | refine M.stAll_i (by assumption) rfl ?_))
    refine M.idxLV_i r3 rfl (by omega) (by omega) (x := y) (by simp) (fun b o hA hc => ?_)
    (repeat (first | refine M.len_i ?_ | refine M.nilCheck_i ?_ | refine M.field_i ?_ | refine M.draw_i ?_ | refine M.cap_i ?_ | refine M.gd_tt ?_ | refine M.gd_ff ?_ | refine M.gd_ft ?_ | refine M.gd_tf ?_ | refine M.gd_u ?_ | refine M.pick_t ?_ | refine M.pick_f ?_ | refine M.not_t ?_ | refine M.not_f ?_ | refine M.cond_t ?_ | refine M.cond_f ?_ | refine M.eqNilP_tn ?_ | refine M.eqNilP_ts ?_ | refine M.eqNilP_fn ?_ | refine M.eqNilP_fs ?_ | refine M.eqNilS_tn ?_ | refine M.eqNilS_ts ?_ | refine M.eqNilS_fn ?_ | refine M.eqNilS_fs ?_ | refine M.lss_t (by omega) ?_ | refine M.lss_f (by omega) ?_ | refine M.leq_t (by omega) ?_ | refine M.leq_f (by omega) ?_ | refine M.gtr_t (by omega) ?_ | refine M.gtr_f (by omega) ?_ | refine M.geq_t (by omega) ?_ | refine M.geq_f (by omega) ?_ | refine M.eql_t (by omega) ?_ | refine M.eql_f (by omega) ?_ | refine M.neq_t (by omega) ?_ | refine M.neq_f (by omega) ?_ | refine M.add_i (by omega) (by omega) ?_ | refine M.sub_i (by omega) (by omega) ?_ | refine M.load_i (by assumption) ?_ | refine M.loadB_i (by assumption) rfl ?_ | refine M.st_i (by assumption) ?_ | refine M.stB_i (by assumption) rfl ?_ | refine M.gs_ff ?_ | refine M.gs_tt ?_ | refine M.gs_ft ?_ | refine M.gs_tf ?_ | refine M.stAll_i (by assumption) rfl ?_))
    by_cases hneg : y < 0
    · (repeat (first | refine M.len_i ?_ | refine M.nilCheck_i ?_ | refine M.field_i ?_ | refine M.draw_i ?_ | refine M.cap_i ?_ | refine M.gd_tt ?_ | refine M.gd_ff ?_ | refine M.gd_ft ?_ | refine M.gd_tf ?_ | refine M.gd_u ?_ | refine M.pick_t ?_ | refine M.pick_f ?_ | refine M.not_t ?_ | refine M.not_f ?_ | refine M.cond_t ?_ | refine M.cond_f ?_ | refine M.eqNilP_tn ?_ | refine M.eqNilP_ts ?_ | refine M.eqNilP_fn ?_ | refine M.eqNilP_fs ?_ | refine M.eqNilS_tn ?_ | refine M.eqNilS_ts ?_ | refine M.eqNilS_fn ?_ | refine M.eqNilS_fs ?_ | refine M.lss_t (by omega) ?_ | refine M.lss_f (by omega) ?_ | refine M.leq_t (by omega) ?_ | refine M.leq_f (by omega) ?_ | refine M.gtr_t (by omega) ?_ | refine M.gtr_f (by omega) ?_ | refine M.geq_t (by omega) ?_ | refine M.geq_f (by omega) ?_ | refine M.eql_t (by omega) ?_ | refine M.eql_f (by omega) ?_ | refine M.neq_t (by omega) ?_ | refine M.neq_f (by omega) ?_ | refine M.add_i (by omega) (by omega) ?_ | refine M.sub_i (by omega) (by omega) ?_ | refine M.load_i (by assumption) ?_ | refine M.loadB_i (by assumption) rfl ?_ | refine M.st_i (by assumption) ?_ | refine M.stB_i (by assumption) rfl ?_ | refine M.gs_ff ?_ | refine M.gs_tt ?_ | refine M.gs_ft ?_ | refine M.gs_tf ?_ | refine M.stAll_i (by assumption) rfl ?_))
      rw [hns, if_pos (by simpa using hneg)]
      exact ⟨_, rfl, GI.nil _ _, k13⟩
    · (repeat (first | refine M.len_i ?_ | refine M.nilCheck_i ?_ | refine M.field_i ?_ | refine M.draw_i ?_ | refine M.cap_i ?_ | refine M.gd_tt ?_ | refine M.gd_ff ?_ | refine M.gd_ft ?_ | refine M.gd_tf ?_ | refine M.gd_u ?_ | refine M.pick_t ?_ | refine M.pick_f ?_ | refine M.not_t ?_ | refine M.not_f ?_ | refine M.cond_t ?_ | refine M.cond_f ?_ | refine M.eqNilP_tn ?_ | refine M.eqNilP_ts ?_ | refine M.eqNilP_fn ?_ | refine M.eqNilP_fs ?_ | refine M.eqNilS_tn ?_ | refine M.eqNilS_ts ?_ | refine M.eqNilS_fn ?_ | refine M.eqNilS_fs ?_ | refine M.lss_t (by omega) ?_ | refine M.lss_f (by omega) ?_ | refine M.leq_t (by omega) ?_ | refine M.leq_f (by omega) ?_ | refine M.gtr_t (by omega) ?_ | refine M.gtr_f (by omega) ?_ | refine M.geq_t (by omega) ?_ | refine M.geq_f (by omega) ?_ | refine M.eql_t (by omega) ?_ | refine M.eql_f (by omega) ?_ | refine M.neq_t (by omega) ?_ | refine M.neq_f (by omega) ?_ | refine M.add_i (by omega) (by omega) ?_ | refine M.sub_i (by omega) (by omega) ?_ | refine M.load_i (by assumption) ?_ | refine M.loadB_i (by assumption) rfl ?_ | refine M.st_i (by assumption) ?_ | refine M.stB_i (by assumption) rfl ?_ | refine M.gs_ff ?_ | refine M.gs_tt ?_ | refine M.gs_ft ?_ | refine M.gs_tf ?_ | refine M.stAll_i (by assumption) rfl ?_))
      rw [hns, if_neg (by simpa using hneg)]
      have h0 : ∀ x ∈ y :: l, ¬ x < 0 := fun x hx => by
        rcases List.mem_cons.1 hx with rfl | hm
        · exact hneg
        · have := (List.pairwise_cons.1 hsl).1 x hm; omega
      generalize y :: l = ys at *
      refine M.loop_i (σ := Nat) (fun i vals w' => vals = [vi i] ∧ i ≤ ys.length ∧ (∀ (j : Nat) x y, j + 1 < i → ys[j]? = some y → ys[j + 1]? = some x → notOf x ≠ y) ∧ Keep w3 w' No) (fun i => ys.length - i) 0 ⟨rfl, by omega, fun j x y hj => by omega, Keep.refl _ _⟩ ?_
      rintro i vals w4 K ⟨rfl, hi, hno, k4⟩ hK _
      simp only [List.getD_cons_zero, List.getD_cons_succ]
      have r4 := r3.keep k4 (fun _ _ _ h => h)
      have g4 := g3.keep k4 (fun _ _ _ h => h)
      by_cases hlt : i < ys.length
      · by_cases hi0 : 0 < i
        · obtain ⟨j, rfl⟩ : ∃ j, i = j + 1 := ⟨i - 1, by omega⟩
          obtain ⟨x, hx⟩ : ∃ x, ys[j + 1]? = some x := ⟨_, List.getElem?_eq_getElem hlt⟩
          obtain ⟨z, hz⟩ : ∃ z, ys[j]? = some z := ⟨_, List.getElem?_eq_getElem (by omega)⟩
          have hsub : (((j + 1 : Nat) : Int) - 1).toNat = j := by omega
          (repeat (first | refine M.len_i ?_ | refine M.nilCheck_i ?_ | refine M.field_i ?_ | refine M.draw_i ?_ | refine M.cap_i ?_ | refine M.gd_tt ?_ | refine M.gd_ff ?_ | refine M.gd_ft ?_ | refine M.gd_tf ?_ | refine M.gd_u ?_ | refine M.pick_t ?_ | refine M.pick_f ?_ | refine M.not_t ?_ | refine M.not_f ?_ | refine M.cond_t ?_ | refine M.cond_f ?_ | refine M.eqNilP_tn ?_ | refine M.eqNilP_ts ?_ | refine M.eqNilP_fn ?_ | refine M.eqNilP_fs ?_ | refine M.eqNilS_tn ?_ | refine M.eqNilS_ts ?_ | refine M.eqNilS_fn ?_ | refine M.eqNilS_fs ?_ | refine M.lss_t (by omega) ?_ | refine M.lss_f (by omega) ?_ | refine M.leq_t (by omega) ?_ | refine M.leq_f (by omega) ?_ | refine M.gtr_t (by omega) ?_ | refine M.gtr_f (by omega) ?_ | refine M.geq_t (by omega) ?_ | refine M.geq_f (by omega) ?_ | refine M.eql_t (by omega) ?_ | refine M.eql_f (by omega) ?_ | refine M.neq_t (by omega) ?_ | refine M.neq_f (by omega) ?_ | refine M.add_i (by omega) (by omega) ?_ | refine M.sub_i (by omega) (by omega) ?_ | refine M.load_i (by assumption) ?_ | refine M.loadB_i (by assumption) rfl ?_ | refine M.st_i (by assumption) ?_ | refine M.stB_i (by assumption) rfl ?_ | refine M.gs_ff ?_ | refine M.gs_tt ?_ | refine M.gs_ft ?_ | refine M.gs_tf ?_ | refine M.stAll_i (by assumption) rfl ?_))
          have r4 : Row w4.drew (w.heap.size ≤ ·) A3 (ys.map vi) := r4
          have g4 : GI w4.drew (w.heap.size ≤ ·) (.slice A3 ys.length c3) ys := g4
          have k4 := k4.to_drew
          generalize w4.drew = w5 at *
          refine M.idxLV_i r4 rfl (by omega) (by omega) (x := x) (by rw [Int.toNat_natCast]; exact hx) (fun b o hA hc => ?_)
          (repeat (first | refine M.len_i ?_ | refine M.nilCheck_i ?_ | refine M.field_i ?_ | refine M.draw_i ?_ | refine M.cap_i ?_ | refine M.gd_tt ?_ | refine M.gd_ff ?_ | refine M.gd_ft ?_ | refine M.gd_tf ?_ | refine M.gd_u ?_ | refine M.pick_t ?_ | refine M.pick_f ?_ | refine M.not_t ?_ | refine M.not_f ?_ | refine M.cond_t ?_ | refine M.cond_f ?_ | refine M.eqNilP_tn ?_ | refine M.eqNilP_ts ?_ | refine M.eqNilP_fn ?_ | refine M.eqNilP_fs ?_ | refine M.eqNilS_tn ?_ | refine M.eqNilS_ts ?_ | refine M.eqNilS_fn ?_ | refine M.eqNilS_fs ?_ | refine M.lss_t (by omega) ?_ | refine M.lss_f (by omega) ?_ | refine M.leq_t (by omega) ?_ | refine M.leq_f (by omega) ?_ | refine M.gtr_t (by omega) ?_ | refine M.gtr_f (by omega) ?_ | refine M.geq_t (by omega) ?_ | refine M.geq_f (by omega) ?_ | refine M.eql_t (by omega) ?_ | refine M.eql_f (by omega) ?_ | refine M.neq_t (by omega) ?_ | refine M.neq_f (by omega) ?_ | refine M.add_i (by omega) (by omega) ?_ | refine M.sub_i (by omega) (by omega) ?_ | refine M.load_i (by assumption) ?_ | refine M.loadB_i (by assumption) rfl ?_ | refine M.st_i (by assumption) ?_ | refine M.stB_i (by assumption) rfl ?_ | refine M.gs_ff ?_ | refine M.gs_tt ?_ | refine M.gs_ft ?_ | refine M.gs_tf ?_ | refine M.stAll_i (by assumption) rfl ?_))
          refine M.idxLV_i r4 rfl (by omega) (by omega) (x := z) (by rw [hsub]; exact hz) (fun b2 o2 hA2 hc2 => ?_)
          (repeat (first | refine M.len_i ?_ | refine M.nilCheck_i ?_ | refine M.field_i ?_ | refine M.draw_i ?_ | refine M.cap_i ?_ | refine M.gd_tt ?_ | refine M.gd_ff ?_ | refine M.gd_ft ?_ | refine M.gd_tf ?_ | refine M.gd_u ?_ | refine M.pick_t ?_ | refine M.pick_f ?_ | refine M.not_t ?_ | refine M.not_f ?_ | refine M.cond_t ?_ | refine M.cond_f ?_ | refine M.eqNilP_tn ?_ | refine M.eqNilP_ts ?_ | refine M.eqNilP_fn ?_ | refine M.eqNilP_fs ?_ | refine M.eqNilS_tn ?_ | refine M.eqNilS_ts ?_ | refine M.eqNilS_fn ?_ | refine M.eqNilS_fs ?_ | refine M.lss_t (by omega) ?_ | refine M.lss_f (by omega) ?_ | refine M.leq_t (by omega) ?_ | refine M.leq_f (by omega) ?_ | refine M.gtr_t (by omega) ?_ | refine M.gtr_f (by omega) ?_ | refine M.geq_t (by omega) ?_ | refine M.geq_f (by omega) ?_ | refine M.eql_t (by omega) ?_ | refine M.eql_f (by omega) ?_ | refine M.neq_t (by omega) ?_ | refine M.neq_f (by omega) ?_ | refine M.add_i (by omega) (by omega) ?_ | refine M.sub_i (by omega) (by omega) ?_ | refine M.load_i (by assumption) ?_ | refine M.loadB_i (by assumption) rfl ?_ | refine M.st_i (by assumption) ?_ | refine M.stB_i (by assumption) rfl ?_ | refine M.gs_ff ?_ | refine M.gs_tt ?_ | refine M.gs_ft ?_ | refine M.gs_tf ?_ | refine M.stAll_i (by assumption) rfl ?_))
          refine M.call_i (not_ret (hI3 x (List.mem_of_getElem? hx)) w5) ?_; rintro _ w6 ⟨rfl, k6⟩
          replace hc2 := k6.cell (fun h => h) hc2
          have g6 := g4.keep k6 (fun _ _ _ h => h)
          (repeat (first | refine M.len_i ?_ | refine M.nilCheck_i ?_ | refine M.field_i ?_ | refine M.draw_i ?_ | refine M.cap_i ?_ | refine M.gd_tt ?_ | refine M.gd_ff ?_ | refine M.gd_ft ?_ | refine M.gd_tf ?_ | refine M.gd_u ?_ | refine M.pick_t ?_ | refine M.pick_f ?_ | refine M.not_t ?_ | refine M.not_f ?_ | refine M.cond_t ?_ | refine M.cond_f ?_ | refine M.eqNilP_tn ?_ | refine M.eqNilP_ts ?_ | refine M.eqNilP_fn ?_ | refine M.eqNilP_fs ?_ | refine M.eqNilS_tn ?_ | refine M.eqNilS_ts ?_ | refine M.eqNilS_fn ?_ | refine M.eqNilS_fs ?_ | refine M.lss_t (by omega) ?_ | refine M.lss_f (by omega) ?_ | refine M.leq_t (by omega) ?_ | refine M.leq_f (by omega) ?_ | refine M.gtr_t (by omega) ?_ | refine M.gtr_f (by omega) ?_ | refine M.geq_t (by omega) ?_ | refine M.geq_f (by omega) ?_ | refine M.eql_t (by omega) ?_ | refine M.eql_f (by omega) ?_ | refine M.neq_t (by omega) ?_ | refine M.neq_f (by omega) ?_ | refine M.add_i (by omega) (by omega) ?_ | refine M.sub_i (by omega) (by omega) ?_ | refine M.load_i (by assumption) ?_ | refine M.loadB_i (by assumption) rfl ?_ | refine M.st_i (by assumption) ?_ | refine M.stB_i (by assumption) rfl ?_ | refine M.gs_ff ?_ | refine M.gs_tt ?_ | refine M.gs_ft ?_ | refine M.gs_tf ?_ | refine M.stAll_i (by assumption) rfl ?_))
          refine M.eql_i ?_
          (repeat (first | refine M.len_i ?_ | refine M.nilCheck_i ?_ | refine M.field_i ?_ | refine M.draw_i ?_ | refine M.cap_i ?_ | refine M.gd_tt ?_ | refine M.gd_ff ?_ | refine M.gd_ft ?_ | refine M.gd_tf ?_ | refine M.gd_u ?_ | refine M.pick_t ?_ | refine M.pick_f ?_ | refine M.not_t ?_ | refine M.not_f ?_ | refine M.cond_t ?_ | refine M.cond_f ?_ | refine M.eqNilP_tn ?_ | refine M.eqNilP_ts ?_ | refine M.eqNilP_fn ?_ | refine M.eqNilP_fs ?_ | refine M.eqNilS_tn ?_ | refine M.eqNilS_ts ?_ | refine M.eqNilS_fn ?_ | refine M.eqNilS_fs ?_ | refine M.lss_t (by omega) ?_ | refine M.lss_f (by omega) ?_ | refine M.leq_t (by omega) ?_ | refine M.leq_f (by omega) ?_ | refine M.gtr_t (by omega) ?_ | refine M.gtr_f (by omega) ?_ | refine M.geq_t (by omega) ?_ | refine M.geq_f (by omega) ?_ | refine M.eql_t (by omega) ?_ | refine M.eql_f (by omega) ?_ | refine M.neq_t (by omega) ?_ | refine M.neq_f (by omega) ?_ | refine M.add_i (by omega) (by omega) ?_ | refine M.sub_i (by omega) (by omega) ?_ | refine M.load_i (by assumption) ?_ | refine M.loadB_i (by assumption) rfl ?_ | refine M.st_i (by assumption) ?_ | refine M.stB_i (by assumption) rfl ?_ | refine M.gs_ff ?_ | refine M.gs_tt ?_ | refine M.gs_ft ?_ | refine M.gs_tf ?_ | refine M.stAll_i (by assumption) rfl ?_))
          have k46 := k4.trans k6 (fun _ _ h => h)
          refine M.cond_i (fun heq => ?_) (fun hne => ?_)
          · have : ys.any (fun x => decide (notOf x ∈ ys)) = true := (side hsl h0).2 ⟨j, x, z, hz, hx, heq⟩
            rw [this]
            exact ⟨_, rfl, g6, k13.trans k46 (fun _ _ h => h)⟩
          · (repeat (first | refine M.len_i ?_ | refine M.nilCheck_i ?_ | refine M.field_i ?_ | refine M.draw_i ?_ | refine M.cap_i ?_ | refine M.gd_tt ?_ | refine M.gd_ff ?_ | refine M.gd_ft ?_ | refine M.gd_tf ?_ | refine M.gd_u ?_ | refine M.pick_t ?_ | refine M.pick_f ?_ | refine M.not_t ?_ | refine M.not_f ?_ | refine M.cond_t ?_ | refine M.cond_f ?_ | refine M.eqNilP_tn ?_ | refine M.eqNilP_ts ?_ | refine M.eqNilP_fn ?_ | refine M.eqNilP_fs ?_ | refine M.eqNilS_tn ?_ | refine M.eqNilS_ts ?_ | refine M.eqNilS_fn ?_ | refine M.eqNilS_fs ?_ | refine M.lss_t (by omega) ?_ | refine M.lss_f (by omega) ?_ | refine M.leq_t (by omega) ?_ | refine M.leq_f (by omega) ?_ | refine M.gtr_t (by omega) ?_ | refine M.gtr_f (by omega) ?_ | refine M.geq_t (by omega) ?_ | refine M.geq_f (by omega) ?_ | refine M.eql_t (by omega) ?_ | refine M.eql_f (by omega) ?_ | refine M.neq_t (by omega) ?_ | refine M.neq_f (by omega) ?_ | refine M.add_i (by omega) (by omega) ?_ | refine M.sub_i (by omega) (by omega) ?_ | refine M.load_i (by assumption) ?_ | refine M.loadB_i (by assumption) rfl ?_ | refine M.st_i (by assumption) ?_ | refine M.stB_i (by assumption) rfl ?_ | refine M.gs_ff ?_ | refine M.gs_tt ?_ | refine M.gs_ft ?_ | refine M.gs_tf ?_ | refine M.stAll_i (by assumption) rfl ?_))
            refine hK (j + 1 + 1) _ _ (by omega) ⟨by simp, by omega, fun n a b hn ha hb => ?_, k46⟩
            by_cases hnj : n = j
            · subst hnj
              rw [hz] at ha; rw [hx] at hb; cases ha; cases hb
              exact hne
            · exact hno n a b (by omega) ha hb
        · have : i = 0 := by omega
          subst this
          (repeat (first | refine M.len_i ?_ | refine M.nilCheck_i ?_ | refine M.field_i ?_ | refine M.draw_i ?_ | refine M.cap_i ?_ | refine M.gd_tt ?_ | refine M.gd_ff ?_ | refine M.gd_ft ?_ | refine M.gd_tf ?_ | refine M.gd_u ?_ | refine M.pick_t ?_ | refine M.pick_f ?_ | refine M.not_t ?_ | refine M.not_f ?_ | refine M.cond_t ?_ | refine M.cond_f ?_ | refine M.eqNilP_tn ?_ | refine M.eqNilP_ts ?_ | refine M.eqNilP_fn ?_ | refine M.eqNilP_fs ?_ | refine M.eqNilS_tn ?_ | refine M.eqNilS_ts ?_ | refine M.eqNilS_fn ?_ | refine M.eqNilS_fs ?_ | refine M.lss_t (by omega) ?_ | refine M.lss_f (by omega) ?_ | refine M.leq_t (by omega) ?_ | refine M.leq_f (by omega) ?_ | refine M.gtr_t (by omega) ?_ | refine M.gtr_f (by omega) ?_ | refine M.geq_t (by omega) ?_ | refine M.geq_f (by omega) ?_ | refine M.eql_t (by omega) ?_ | refine M.eql_f (by omega) ?_ | refine M.neq_t (by omega) ?_ | refine M.neq_f (by omega) ?_ | refine M.add_i (by omega) (by omega) ?_ | refine M.sub_i (by omega) (by omega) ?_ | refine M.load_i (by assumption) ?_ | refine M.loadB_i (by assumption) rfl ?_ | refine M.st_i (by assumption) ?_ | refine M.stB_i (by assumption) rfl ?_ | refine M.gs_ff ?_ | refine M.gs_tt ?_ | refine M.gs_ft ?_ | refine M.gs_tf ?_ | refine M.stAll_i (by assumption) rfl ?_))
          exact hK 1 _ _ (by omega) ⟨by simp, by omega, fun n a b hn => by omega, k4.to_drew⟩
      · have : i = ys.length := by omega
        subst this
        (repeat (first | refine M.len_i ?_ | refine M.nilCheck_i ?_ | refine M.field_i ?_ | refine M.draw_i ?_ | refine M.cap_i ?_ | refine M.gd_tt ?_ | refine M.gd_ff ?_ | refine M.gd_ft ?_ | refine M.gd_tf ?_ | refine M.gd_u ?_ | refine M.pick_t ?_ | refine M.pick_f ?_ | refine M.not_t ?_ | refine M.not_f ?_ | refine M.cond_t ?_ | refine M.cond_f ?_ | refine M.eqNilP_tn ?_ | refine M.eqNilP_ts ?_ | refine M.eqNilP_fn ?_ | refine M.eqNilP_fs ?_ | refine M.eqNilS_tn ?_ | refine M.eqNilS_ts ?_ | refine M.eqNilS_fn ?_ | refine M.eqNilS_fs ?_ | refine M.lss_t (by omega) ?_ | refine M.lss_f (by omega) ?_ | refine M.leq_t (by omega) ?_ | refine M.leq_f (by omega) ?_ | refine M.gtr_t (by omega) ?_ | refine M.gtr_f (by omega) ?_ | refine M.geq_t (by omega) ?_ | refine M.geq_f (by omega) ?_ | refine M.eql_t (by omega) ?_ | refine M.eql_f (by omega) ?_ | refine M.neq_t (by omega) ?_ | refine M.neq_f (by omega) ?_ | refine M.add_i (by omega) (by omega) ?_ | refine M.sub_i (by omega) (by omega) ?_ | refine M.load_i (by assumption) ?_ | refine M.loadB_i (by assumption) rfl ?_ | refine M.st_i (by assumption) ?_ | refine M.stB_i (by assumption) rfl ?_ | refine M.gs_ff ?_ | refine M.gs_tt ?_ | refine M.gs_ft ?_ | refine M.gs_tf ?_ | refine M.stAll_i (by assumption) rfl ?_))
        have : ys.any (fun x => decide (notOf x ∈ ys)) = false := by
          cases hh : ys.any (fun x => decide (notOf x ∈ ys)) with
          | false => rfl
          | true =>
            obtain ⟨n, a, b, h1, h2, h3⟩ := (side hsl h0).1 hh
            exact absurd h3 (hno n a b (by have := (List.getElem?_eq_some_iff.1 h2).1; omega) h1 h2)
        rw [this]
        exact ⟨_, rfl, g4, k13.trans k4 (fun _ _ h => h)⟩
  · have : ys = [] := List.length_eq_zero_iff.1 (by omega)
    subst this
    simp only at hns
    rw [hns]
    (repeat (first | refine M.len_i ?_ | refine M.nilCheck_i ?_ | refine M.field_i ?_ | refine M.draw_i ?_ | refine M.cap_i ?_ | refine M.gd_tt ?_ | refine M.gd_ff ?_ | refine M.gd_ft ?_ | refine M.gd_tf ?_ | refine M.gd_u ?_ | refine M.pick_t ?_ | refine M.pick_f ?_ | refine M.not_t ?_ | refine M.not_f ?_ | refine M.cond_t ?_ | refine M.cond_f ?_ | refine M.eqNilP_tn ?_ | refine M.eqNilP_ts ?_ | refine M.eqNilP_fn ?_ | refine M.eqNilP_fs ?_ | refine M.eqNilS_tn ?_ | refine M.eqNilS_ts ?_ | refine M.eqNilS_fn ?_ | refine M.eqNilS_fs ?_ | refine M.lss_t (by omega) ?_ | refine M.lss_f (by omega) ?_ | refine M.leq_t (by omega) ?_ | refine M.leq_f (by omega) ?_ | refine M.gtr_t (by omega) ?_ | refine M.gtr_f (by omega) ?_ | refine M.geq_t (by omega) ?_ | refine M.geq_f (by omega) ?_ | refine M.eql_t (by omega) ?_ | refine M.eql_f (by omega) ?_ | refine M.neq_t (by omega) ?_ | refine M.neq_f (by omega) ?_ | refine M.add_i (by omega) (by omega) ?_ | refine M.sub_i (by omega) (by omega) ?_ | refine M.load_i (by assumption) ?_ | refine M.loadB_i (by assumption) rfl ?_ | refine M.st_i (by assumption) ?_ | refine M.stB_i (by assumption) rfl ?_ | refine M.gs_ff ?_ | refine M.gs_tt ?_ | refine M.gs_ft ?_ | refine M.gs_tf ?_ | refine M.stAll_i (by assumption) rfl ?_))
    refine M.loop_i (σ := Unit) (fun _ vals w' => vals = [vi 0] ∧ w' = w3) (fun _ => 0) () ⟨rfl, rfl⟩ ?_
    rintro _ vals w4 K ⟨rfl, rfl⟩ hK _
    simp only [List.getD_cons_zero, List.getD_cons_succ]
    simp only [List.length_nil]
    (repeat (first | refine M.len_i ?_ | refine M.nilCheck_i ?_ | refine M.field_i ?_ | refine M.draw_i ?_ | refine M.cap_i ?_ | refine M.gd_tt ?_ | refine M.gd_ff ?_ | refine M.gd_ft ?_ | refine M.gd_tf ?_ | refine M.gd_u ?_ | refine M.pick_t ?_ | refine M.pick_f ?_ | refine M.not_t ?_ | refine M.not_f ?_ | refine M.cond_t ?_ | refine M.cond_f ?_ | refine M.eqNilP_tn ?_ | refine M.eqNilP_ts ?_ | refine M.eqNilP_fn ?_ | refine M.eqNilP_fs ?_ | refine M.eqNilS_tn ?_ | refine M.eqNilS_ts ?_ | refine M.eqNilS_fn ?_ | refine M.eqNilS_fs ?_ | refine M.lss_t (by omega) ?_ | refine M.lss_f (by omega) ?_ | refine M.leq_t (by omega) ?_ | refine M.leq_f (by omega) ?_ | refine M.gtr_t (by omega) ?_ | refine M.gtr_f (by omega) ?_ | refine M.geq_t (by omega) ?_ | refine M.geq_f (by omega) ?_ | refine M.eql_t (by omega) ?_ | refine M.eql_f (by omega) ?_ | refine M.neq_t (by omega) ?_ | refine M.neq_f (by omega) ?_ | refine M.add_i (by omega) (by omega) ?_ | refine M.sub_i (by omega) (by omega) ?_ | refine M.load_i (by assumption) ?_ | refine M.loadB_i (by assumption) rfl ?_ | refine M.st_i (by assumption) ?_ | refine M.stB_i (by assumption) rfl ?_ | refine M.gs_ff ?_ | refine M.gs_tt ?_ | refine M.gs_ft ?_ | refine M.gs_tf ?_ | refine M.stAll_i (by assumption) rfl ?_))
    exact ⟨_, rfl, g3, k13⟩
end Go.Proofs.Ytfkbacoiocniaaa
