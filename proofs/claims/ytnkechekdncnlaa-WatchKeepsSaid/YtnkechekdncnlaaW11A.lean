import Derived.Test.YtnkechekdncnlaaW11i
import Derived.Test.YtnkechekdncnlaaRef06Cw
namespace Go.Proofs.Ytnkechekdncnlaa
open Go.Mw
set_option linter.unusedVariables false
set_option linter.unusedSimpArgs false
set_option maxRecDepth 100000
attribute [local irreducible] M.val M.unit M.next M.pick M.new M.nilCheck M.load1 M.loadA M.store M.fieldAddr M.indexSl M.indexArr M.slice M.makeSlice M.buildSlice M.len M.lenS M.cap M.append M.extract M.conv M.not M.neg M.bin M.shift M.eqB M.eqNil M.call M.callv M.gd M.share M.cond M.loop M.draw pureW readW Ret
/-! breakwater/breakwaterref11.New: function 16 -/
def sh16 (x0 : Value) (R : Kt) (w : World) : Prop :=
  M.new 48 #[.int .i64 0, .slice none 0 0, .slice none 0 0] (fun t2 w =>
  M.share (fun K1 w =>
  M.bin .lss x0 (Value.int IntKind.i64 0) (fun t4 w =>
  M.gd t4 false (fun k w => k x0 w) (fun t6 w =>
  M.gd t4 false (fun k w => M.bin .gtr t6 (Value.int IntKind.i64 1048576) k w) (fun t7 w =>
  M.pick t4 (Value.bool true) t7 (fun t8 w =>
  M.cond t8
  (K1 [(Value.int IntKind.i64 0)] w)
  (K1 [x0] w)) w) w) w) w) (fun s1 w => ∀ _ : List Value,
  pureW Try.prog (Instr.build 48 #[(0, (s1.getD 0 undef))]) (fun t10 w =>
  M.store 3 t2 t10 (fun _ w =>
  M.loadA 3 t2 (fun r0 w => R r0 w) w) w) w) w) w
theorem ok16 (x0 : Value) (R : Kt) (w : World) (h : sh16 x0 R w) : Ret Try.prog 16 #[x0] w R :=
  ret_mk <| calls_of_comp mixed (c := Try.f16.body.getD .skip) (args := [x0]) (rs := [(ResultVar.cell 2 48)]) (Ann.seq Ann.text (Ann.join [0] [3, 4, 5, 6, 7, 8] (Ann.seq Ann.text (Ann.cond Ann.text Ann.leaf)) (Ann.seq Ann.text Ann.leaf)))
    Try.func16 (by kernel_rfl) (by kernel_rfl)
    (Eq.mp (by kernel_rfl) h)
/-! breakwater/breakwaterref11.Is: function 42 -/
def sh42 (x0 x1 : Value) (R : Kt) (w : World) : Prop :=
  M.new 48 (Value.cells x0) (fun t2 w =>
  M.bin .geq x1 (Value.int IntKind.i64 0) (fun t6 w =>
  M.gd t6 true (fun k w => k x1 w) (fun t8 w =>
  M.gd t6 true (fun k w => M.fieldAddr 1 t2 k w) (fun t9 w =>
  M.gd t6 true (fun k w => M.load1 t9 k w) (fun t10 w =>
  M.gd t6 true (fun k w => M.len t10 k w) (fun t11 w =>
  M.gd t6 true (fun k w => M.bin .lss t8 t11 k w) (fun t12 w =>
  M.pick t6 t12 (Value.bool false) (fun t13 w =>
  M.gd t13 true (fun k w => M.fieldAddr 2 t2 k w) (fun t15 w =>
  M.gd t13 true (fun k w => M.load1 t15 k w) (fun t16 w =>
  M.gd t13 true (fun k w => k x1 w) (fun t17 w =>
  M.gd t13 true (fun k w => M.indexSl 1 t16 t17 k w) (fun t18 w =>
  M.gd t13 true (fun k w => M.load1 t18 k w) (fun t19 w =>
  M.pick t13 t19 (Value.bool false) (fun t20 w =>
  R t20 w) w) w) w) w) w) w) w) w) w) w) w) w) w) w
theorem ok42 (x0 x1 : Value) (R : Kt) (w : World) (h : sh42 x0 x1 R w) : Ret Try.prog 42 #[x0, x1] w R :=
  ret_mk <| calls_of_comp mixed (c := Try.f42.body.getD .skip) (args := [x0, x1]) (rs := [(ResultVar.tmp 4)]) (Ann.seq Ann.text (Ann.seq Ann.text Ann.leaf))
    Try.func42 (by kernel_rfl) (by kernel_rfl)
    (Eq.mp (by kernel_rfl) h)
/-! breakwater/breakwaterref11.Add: function 34 -/
def sh34 (x0 x1 : Value) (R : Kt) (w : World) : Prop :=
  M.new 48 (Value.cells x0) (fun t2 w =>
  M.new 48 #[.int .i64 0, .slice none 0 0, .slice none 0 0] (fun t4 w =>
  M.loop [(Value.int IntKind.i64 0)] (fun s1 K1 w => ∀ _ : List Value,
  M.len x1 (fun t12 w =>
  M.bin .lss (s1.getD 0 undef) t12 (fun t13 w =>
  M.cond t13
  (M.draw (fun w =>
  M.indexSl 1 x1 (s1.getD 0 undef) (fun t18 w =>
  M.load1 t18 (fun t19 w =>
  M.bin .lss t19 (Value.int IntKind.i64 0) (fun t20 w =>
  M.gd t20 false (fun k w => k x1 w) (fun t22 w =>
  M.gd t20 false (fun k w => k (s1.getD 0 undef) w) (fun t23 w =>
  M.gd t20 false (fun k w => M.indexSl 1 t22 t23 k w) (fun t24 w =>
  M.gd t20 false (fun k w => M.load1 t24 k w) (fun t25 w =>
  M.gd t20 false (fun k w => M.bin .quo t25 (Value.int IntKind.i64 2) k w) (fun t26 w =>
  M.gd t20 false (fun k w => M.fieldAddr 0 t2 k w) (fun t27 w =>
  M.gd t20 false (fun k w => M.load1 t27 k w) (fun t28 w =>
  M.gd t20 false (fun k w => M.bin .geq t26 t28 k w) (fun t29 w =>
  M.pick t20 (Value.bool true) t29 (fun t30 w =>
  M.cond t30
  (M.loadA 3 t2 (fun t31 w =>
  M.store 3 t4 t31 (fun _ w =>
  M.loadA 3 t4 (fun r0 w => R (.tuple #[r0, (Value.int IntKind.i64 0), (Value.int IntKind.i64 10)]) w) w) w) w)
  (M.bin .add (s1.getD 0 undef) (Value.int IntKind.i64 1) (fun t15 w =>
  K1 [t15] w) w)) w) w) w) w) w) w) w) w) w) w) w) w) w)
  (M.fieldAddr 1 t2 (fun t33 w =>
  M.load1 t33 (fun t34 w =>
  M.append 22 1 24 #[.slice none 0 0] (Value.slice none 0 0) t34 (fun t35 w =>
  M.buildSlice 22 1 #[.slice none 0 0] 1 [(0, x1)] (fun t38 w =>
  M.append 22 1 24 #[.slice none 0 0] t35 t38 (fun t39 w =>
  M.fieldAddr 1 t2 (fun t41 w =>
  M.store 1 t41 t39 (fun _ w =>
  M.fieldAddr 2 t2 (fun t42 w =>
  M.load1 t42 (fun t43 w =>
  M.append 4 1 1 #[.bool false] (Value.slice none 0 0) t43 (fun t44 w =>
  M.buildSlice 4 1 #[.bool false] 1 [(0, (Value.bool true))] (fun t46 w =>
  M.append 4 1 1 #[.bool false] t44 t46 (fun t47 w =>
  M.fieldAddr 2 t2 (fun t49 w =>
  M.store 1 t49 t47 (fun _ w =>
  M.draw (fun w =>
  M.loadA 3 t2 (fun t50 w =>
  M.fieldAddr 1 t2 (fun t51 w =>
  M.load1 t51 (fun t52 w =>
  M.len t52 (fun t53 w =>
  M.bin .sub t53 (Value.int IntKind.i64 1) (fun t54 w =>
  M.store 3 t4 t50 (fun _ w =>
  ((M.load1 t51 (fun v' _ => v' = t52) w) ∧ M.loadA 3 t4 (fun r0 w => R (.tuple #[r0, t54, (Value.int IntKind.i64 0)]) w) w)) w) w) w) w) w) w) w) w) w) w) w) w) w) w) w) w) w) w) w) w) w)) w) w) w) w) w
theorem ok34 (x0 x1 : Value) (R : Kt) (w : World) (h : sh34 x0 x1 R w) : Ret Try.prog 34 #[x0, x1] w R :=
  ret_mk <| calls_of_comp mixed (c := Try.f34.body.getD .skip) (args := [x0, x1]) (rs := [(ResultVar.cell 4 48), (ResultVar.tmp 5), (ResultVar.tmp 6)]) (Ann.seq Ann.text (Ann.seq (Ann.seq Ann.text (Ann.block (Ann.loop [7] [5, 6, 10, 11, 12, 13, 14, 15, 16, 17, 18, 19, 20, 21, 22, 23, 24, 25, 26, 27, 28, 29, 30, 31] (Ann.seq (Ann.seq Ann.text (Ann.cond Ann.leaf Ann.leaf)) (Ann.seq (Ann.block (Ann.seq (Ann.draw (Sch.take 0 (Sch.take 1 (Sch.take 2 (Sch.take 3 (Sch.take 4 (Sch.take 5 (Sch.take 6 (Sch.take 7 (Sch.take 8 (Sch.take 9 (Sch.take 10 (Sch.take 11 (Sch.take 12 (Sch.take 13 (Sch.take 14 Sch.done)))))))))))))))) (Ann.cond (Ann.seq Ann.text Ann.leaf) Ann.leaf))) Ann.text))))) (Ann.seq Ann.text (Ann.seq Ann.text (Ann.seq Ann.text (Ann.seq Ann.text (Ann.seq Ann.text (Ann.seq Ann.text (Ann.seq Ann.text (Ann.seq (Ann.draw (Sch.take 0 (Sch.take 1 (Sch.take 2 (Sch.take 3 (Sch.take 4 (Sch.one 5 (Sch.take 6 (Sch.take 7 Sch.done))))))))) Ann.leaf))))))))))
    Try.func34 (by kernel_rfl) (by kernel_rfl)
    (Eq.mp (by kernel_rfl) h)
/-! breakwater/breakwaterref11.Remove: function 36 -/
def sh36 (x0 x1 : Value) (R : Kt) (w : World) : Prop :=
  M.new 48 (Value.cells x0) (fun t2 w =>
  M.new 48 #[.int .i64 0, .slice none 0 0, .slice none 0 0] (fun t4 w =>
  M.loadA 3 t2 (fun t6 w =>
  M.call Try.prog 42 #[t6, x1] (fun t8 w =>
  M.not t8 (fun t9 w =>
  M.cond t9
  (M.loadA 3 t2 (fun t10 w =>
  M.store 3 t4 t10 (fun _ w =>
  M.loadA 3 t4 (fun r0 w => R (.tuple #[r0, (Value.bool false)]) w) w) w) w)
  (M.fieldAddr 2 t2 (fun t11 w =>
  M.load1 t11 (fun t12 w =>
  M.append 4 1 1 #[.bool false] (Value.slice none 0 0) t12 (fun t13 w =>
  M.fieldAddr 2 t2 (fun t14 w =>
  M.store 1 t14 t13 (fun _ w =>
  M.fieldAddr 2 t2 (fun t15 w =>
  M.load1 t15 (fun t16 w =>
  M.indexSl 1 t16 x1 (fun t18 w =>
  M.store 1 t18 (Value.bool false) (fun _ w =>
  M.loadA 3 t2 (fun t19 w =>
  M.store 3 t4 t19 (fun _ w =>
  M.loadA 3 t4 (fun r0 w => R (.tuple #[r0, (Value.bool true)]) w) w) w) w) w) w) w) w) w) w) w) w) w)) w) w) w) w) w
theorem ok36 (x0 x1 : Value) (R : Kt) (w : World) (h : sh36 x0 x1 R w) : Ret Try.prog 36 #[x0, x1] w R :=
  ret_mk <| calls_of_comp mixed (c := Try.f36.body.getD .skip) (args := [x0, x1]) (rs := [(ResultVar.cell 4 48), (ResultVar.tmp 5)]) (Ann.seq Ann.text (Ann.seq (Ann.seq Ann.text (Ann.cond (Ann.seq Ann.text Ann.leaf) Ann.leaf)) (Ann.seq Ann.text (Ann.seq Ann.text (Ann.seq Ann.text Ann.leaf)))))
    Try.func36 (by kernel_rfl) (by kernel_rfl)
    (Eq.mp (by kernel_rfl) h)
/-! breakwater/breakwaterref11.All: function 18 -/
def sh18 (x0 : Value) (R : Kt) (w : World) : Prop :=
  M.new 48 (Value.cells x0) (fun t1 w =>
  M.loop [(Value.slice none 0 0), (Value.int IntKind.i64 0)] (fun s1 K1 w => ∀ _ : List Value,
  M.fieldAddr 1 t1 (fun t6 w =>
  M.load1 t6 (fun t7 w =>
  M.len t7 (fun t8 w =>
  M.bin .lss (s1.getD 1 undef) t8 (fun t9 w =>
  M.cond t9
  (M.share (fun K2 w =>
  M.fieldAddr 2 t1 (fun t12 w =>
  M.load1 t12 (fun t13 w =>
  M.indexSl 1 t13 (s1.getD 1 undef) (fun t15 w =>
  M.load1 t15 (fun t16 w =>
  M.cond t16
  (M.fieldAddr 1 t1 (fun t18 w =>
  M.load1 t18 (fun t19 w =>
  M.indexSl 1 t19 (s1.getD 1 undef) (fun t21 w =>
  M.load1 t21 (fun t22 w =>
  M.buildSlice 22 1 #[.slice none 0 0] 1 [(0, t22)] (fun t23 w =>
  M.append 22 1 24 #[.slice none 0 0] (s1.getD 0 undef) t23 (fun t24 w =>
  K2 [t24] w) w) w) w) w) w) w)
  (K2 [(s1.getD 0 undef)] w)) w) w) w) w) (fun s2 w => ∀ _ : List Value,
  M.bin .add (s1.getD 1 undef) (Value.int IntKind.i64 1) (fun t11 w =>
  K1 [(s2.getD 0 undef), t11] w) w) w)
  (R (s1.getD 0 undef) w)) w) w) w) w) w) w
theorem ok18 (x0 : Value) (R : Kt) (w : World) (h : sh18 x0 R w) : Ret Try.prog 18 #[x0] w R :=
  ret_mk <| calls_of_comp mixed (c := Try.f18.body.getD .skip) (args := [x0]) (rs := [(ResultVar.tmp 2)]) (Ann.seq Ann.text (Ann.seq Ann.text (Ann.seq (Ann.seq Ann.text (Ann.block (Ann.loop [3, 4] [5, 6, 7, 8, 9, 10, 11, 12, 13, 14, 15, 16, 17, 18, 19, 20, 21, 22, 23, 24] (Ann.seq (Ann.seq Ann.text (Ann.cond Ann.leaf Ann.leaf)) (Ann.seq (Ann.jblock [3] [12, 13, 14, 15, 16, 17, 18, 19, 20, 21, 22, 23, 24] (Ann.seq Ann.text (Ann.cond Ann.text Ann.leaf))) Ann.text))))) (Ann.seq Ann.text Ann.leaf))))
    Try.func18 (by kernel_rfl) (by kernel_rfl)
    (Eq.mp (by kernel_rfl) h)
/-! breakwater/breakwaterref11.Run: function 39 -/
def sh39 (x0 x1 : Value) (R : Kt) (w : World) : Prop :=
  M.new 48 (Value.cells x0) (fun t2 w =>
  M.loadA 3 t2 (fun t6 w =>
  M.call Try.prog 18 #[t6] (fun t7 w =>
  M.call Try.prog 53 #[t7, x1] (fun t9 w =>
  M.extract 0 t9 (fun t10 w =>
  M.extract 1 t9 (fun t11 w =>
  R (.tuple #[t10, t11]) w) w) w) w) w) w) w
theorem ok39 (x0 x1 : Value) (R : Kt) (w : World) (h : sh39 x0 x1 R w) : Ret Try.prog 39 #[x0, x1] w R :=
  ret_mk <| calls_of_comp mixed (c := Try.f39.body.getD .skip) (args := [x0, x1]) (rs := [(ResultVar.tmp 4), (ResultVar.tmp 5)]) (Ann.seq Ann.text (Ann.seq Ann.text Ann.leaf))
    Try.func39 (by kernel_rfl) (by kernel_rfl)
    (Eq.mp (by kernel_rfl) h)

theorem LLr.mono {w : World} {D D' : Nat → Prop} {A : Option Addr} {vs : List Value} {l : List (List Int)} (h : LLr w D A vs l) (hd : ∀ b, b < w.heap.size → D b → D' b) : LLr w D' A vs l :=
  ⟨h.row.mono hd, h.len, fun i c hc => by obtain ⟨u, g1, g2⟩ := h.all i c hc; exact ⟨u, g1, g2.mono hd⟩⟩
theorem LL.mono {w : World} {D D' : Nat → Prop} {v : Value} {l : List (List Int)} (h : LL w D v l) (hd : ∀ b, b < w.heap.size → D b → D' b) : LL w D' v l := by
  obtain ⟨A, c, vs, h1, h2, h3⟩ := h
  exact ⟨A, c, vs, h1, h2.mono hd, h3⟩
theorem LL.one {w : World} {D : Nat → Prop} {v : Value} {l : List (List Int)} (h : LL w D v l) : v.oneCell' = true := by
  obtain ⟨A, c, vs, rfl, _, _⟩ := h; rfl
theorem LLr.one {w : World} {D : Nat → Prop} {A : Option Addr} {vs : List Value} {l : List (List Int)} (h : LLr w D A vs l) : ∀ y ∈ vs, y.oneCell' = true := fun y hy => by
  obtain ⟨i, hi⟩ := List.mem_iff_getElem?.1 hy
  have hlt := (List.getElem?_eq_some_iff.1 hi).1
  have hl := h.len
  obtain ⟨u, g1, g2⟩ := h.all i l[i] (List.getElem?_eq_getElem (by omega))
  rw [hi] at g1; cases g1
  exact LV.one g2
/-- The document's clauses in memory: a struct of three cells. -/
def XR (w : World) (O : Nat → Prop) (a b : Value) (x : X11) : Prop := LL w (fun b => ¬ O b) a (x.P.map (·.1)) ∧ LV vb w (fun b => ¬ O b) b (x.P.map (·.2))
section
variable {w w' : World} {O O' : Nat → Prop} {a b : Value} {x : X11}
theorem XR.keep (h : XR w O a b x) (k : Keep w w' O) : XR w' O a b x :=
  ⟨h.1.keep k (fun _ _ h1 h2 => h1 h2), h.2.keep k (fun _ _ h1 h2 => h1 h2)⟩
theorem XR.keepN (h : XR w O a b x) (k : Keep w w' No) : XR w' O a b x := h.keep (k.mono (fun _ _ e => e.elim))
theorem XR.omod (h : XR w O a b x) (m : OMod w w' O O') : XR w' O' a b x := by
  have h1 := h.1.mono (D' := fun b => b < w.heap.size ∧ ¬ O b) (fun b hb e => ⟨hb, e⟩)
  have h2 := h.2.mono (D' := fun b => b < w.heap.size ∧ ¬ O b) (fun b hb e => ⟨hb, e⟩)
  exact ⟨(h1.keep m.1 (fun _ _ e1 e2 => e1.2 e2)).mono (fun b _ e e2 => e.2 (m.2 b e.1 e2)), (h2.keep m.1 (fun _ _ e1 e2 => e1.2 e2)).mono (fun b _ e e2 => e.2 (m.2 b e.1 e2))⟩
theorem xr_nil (w : World) (O : Nat → Prop) (n : Nat) : XR w O (.slice none 0 0) (.slice none 0 0) ⟨n, []⟩ :=
  ⟨⟨none, 0, [], rfl, ⟨.inl rfl, rfl, fun i c h => by simp at h⟩, Nat.le_refl _⟩, none, 0, rfl, .inl rfl, Nat.le_refl _⟩
theorem rnew11_ret {n : Nat} (hn : n ≤ 40) (w : World) : Ret Try.prog 16 #[vi n] w (fun r w' => r = .agg ⟨[vi n, .slice none 0 0, .slice none 0 0]⟩ ∧ Keep w w' No) := by
  refine ok16 _ _ _ ?_
  unfold sh16
  refine M.new_i (l := [vi 0, .slice none 0 0, .slice none 0 0]) (fun w1 b1 k1 s1 => ?_)
  refine M.share_j (fun vals w' => vals = [vi n] ∧ w' = w1) ?_ ?_
  · rintro vals w' ⟨rfl, rfl⟩ _
    simp only [List.getD_cons_zero, List.getD_cons_succ]
    refine M.pure_i (.agg ⟨[vi n, .slice none 0 0, .slice none 0 0]⟩) (fun _ => by kernel_rfl) ?_
    refine M.storeAll_i b1 rfl rfl (List.all_eq_true.1 rfl) (fun w2 b2 k2 s2 => ?_)
    refine M.loadAll_i b2 rfl ?_
    exact ⟨rfl, k1.trans k2 (fun b hb h => by omega)⟩
  · intro K hK
    (repeat (first|refine ja ?_|refine jb ?_|refine jc ?_|refine jd ?_|refine je ?_|refine jf ?_|refine jg ?_|refine jh ?_|refine ji ?_|refine jj ?_|refine jk ?_|refine jl ?_|refine jm ?_|refine jn ?_|refine jo ?_|refine jp ?_|refine jq ?_|refine jr ?_|refine js ?_|refine jt ?_|refine ju ?_|refine jv ?_|refine jw ?_|refine jx ?_|refine jy ?_|refine jz ?_|refine jA ?_|refine jB ?_|refine jC ?_|refine jD ?_|refine jE ?_|refine jF ?_|refine jG ?_|refine jH ?_|refine jI ?_|refine jJ ?_|refine jK ?_|refine jL ?_|refine jM (by assumption) ?_|refine jN (by assumption) rfl ?_|refine jO (by assumption) ?_|refine jP (by assumption) rfl ?_|refine jQ ?_|refine jR ?_|refine jS ?_|refine jT ?_|refine jU (by assumption) rfl ?_))
    exact hK _ _ ⟨rfl, rfl⟩
theorem ris_ret (h : XR w O a b x) (i : Int) : Ret Try.prog 42 #[.agg ⟨[vi x.vars, a, b]⟩, vi i] w (fun r w' => r = .bool (isX x i) ∧ Keep w w' No) := by
  obtain ⟨⟨A, c, vs, rfl, hl, _⟩, B, c2, rfl, hr, _⟩ := id h
  refine ok42 _ _ _ _ ?_
  unfold sh42
  refine M.new_i (l := [vi x.vars, .slice A (x.P.map (·.1)).length c, .slice B (x.P.map (·.2)).length c2]) (fun w1 b1 k1 s1 => ?_)
  have hr1 := hr.keep k1 (fun _ _ _ h => h)
  have e1 : (x.P.map (·.1)).length = x.P.length := List.length_map _
  have e2 : (x.P.map (·.2)).length = x.P.length := List.length_map _
  by_cases h0 : 0 ≤ i
  · by_cases h1 : i < x.P.length
    · obtain ⟨p, hp⟩ : ∃ p, x.P[i.toNat]? = some p := ⟨_, List.getElem?_eq_getElem (by omega)⟩
      rw [← e1] at h1
      (repeat (first|refine ja ?_|refine jb ?_|refine jc ?_|refine jd ?_|refine je ?_|refine jf ?_|refine jg ?_|refine jh ?_|refine ji ?_|refine jj ?_|refine jk ?_|refine jl ?_|refine jm ?_|refine jn ?_|refine jo ?_|refine jp ?_|refine jq ?_|refine jr ?_|refine js ?_|refine jt ?_|refine ju ?_|refine jv ?_|refine jw ?_|refine jx ?_|refine jy ?_|refine jz ?_|refine jA ?_|refine jB ?_|refine jC ?_|refine jD ?_|refine jE ?_|refine jF ?_|refine jG ?_|refine jH ?_|refine jI ?_|refine jJ ?_|refine jK ?_|refine jL ?_|refine jM (by assumption) ?_|refine jN (by assumption) rfl ?_|refine jO (by assumption) ?_|refine jP (by assumption) rfl ?_|refine jQ ?_|refine jR ?_|refine jS ?_|refine jT ?_|refine jU (by assumption) rfl ?_))
      refine M.idxLV_i hr1 rfl h0 (by omega) (x := p.2) (by rw [List.getElem?_map, hp]; rfl) (fun bb oo hA hcc => ?_)
      (repeat (first|refine ja ?_|refine jb ?_|refine jc ?_|refine jd ?_|refine je ?_|refine jf ?_|refine jg ?_|refine jh ?_|refine ji ?_|refine jj ?_|refine jk ?_|refine jl ?_|refine jm ?_|refine jn ?_|refine jo ?_|refine jp ?_|refine jq ?_|refine jr ?_|refine js ?_|refine jt ?_|refine ju ?_|refine jv ?_|refine jw ?_|refine jx ?_|refine jy ?_|refine jz ?_|refine jA ?_|refine jB ?_|refine jC ?_|refine jD ?_|refine jE ?_|refine jF ?_|refine jG ?_|refine jH ?_|refine jI ?_|refine jJ ?_|refine jK ?_|refine jL ?_|refine jM (by assumption) ?_|refine jN (by assumption) rfl ?_|refine jO (by assumption) ?_|refine jP (by assumption) rfl ?_|refine jQ ?_|refine jR ?_|refine jS ?_|refine jT ?_|refine jU (by assumption) rfl ?_))
      refine ⟨?_, k1⟩
      unfold isX
      rw [decide_eq_true h0, hp]
      rfl
    · rw [← e1] at h1
      (repeat (first|refine ja ?_|refine jb ?_|refine jc ?_|refine jd ?_|refine je ?_|refine jf ?_|refine jg ?_|refine jh ?_|refine ji ?_|refine jj ?_|refine jk ?_|refine jl ?_|refine jm ?_|refine jn ?_|refine jo ?_|refine jp ?_|refine jq ?_|refine jr ?_|refine js ?_|refine jt ?_|refine ju ?_|refine jv ?_|refine jw ?_|refine jx ?_|refine jy ?_|refine jz ?_|refine jA ?_|refine jB ?_|refine jC ?_|refine jD ?_|refine jE ?_|refine jF ?_|refine jG ?_|refine jH ?_|refine jI ?_|refine jJ ?_|refine jK ?_|refine jL ?_|refine jM (by assumption) ?_|refine jN (by assumption) rfl ?_|refine jO (by assumption) ?_|refine jP (by assumption) rfl ?_|refine jQ ?_|refine jR ?_|refine jS ?_|refine jT ?_|refine jU (by assumption) rfl ?_))
      refine ⟨?_, k1⟩
      unfold isX
      rw [List.getElem?_eq_none (by omega), Bool.and_false]
  · (repeat (first|refine ja ?_|refine jb ?_|refine jc ?_|refine jd ?_|refine je ?_|refine jf ?_|refine jg ?_|refine jh ?_|refine ji ?_|refine jj ?_|refine jk ?_|refine jl ?_|refine jm ?_|refine jn ?_|refine jo ?_|refine jp ?_|refine jq ?_|refine jr ?_|refine js ?_|refine jt ?_|refine ju ?_|refine jv ?_|refine jw ?_|refine jx ?_|refine jy ?_|refine jz ?_|refine jA ?_|refine jB ?_|refine jC ?_|refine jD ?_|refine jE ?_|refine jF ?_|refine jG ?_|refine jH ?_|refine jI ?_|refine jJ ?_|refine jK ?_|refine jL ?_|refine jM (by assumption) ?_|refine jN (by assumption) rfl ?_|refine jO (by assumption) ?_|refine jP (by assumption) rfl ?_|refine jQ ?_|refine jR ?_|refine jS ?_|refine jT ?_|refine jU (by assumption) rfl ?_))
    refine ⟨?_, k1⟩
    unfold isX
    rw [decide_eq_false h0, Bool.false_and]
theorem LL.snoc {D L : Nat → Prop} {v' u : Value} {vs : List Value} {l : List (List Int)} {c : List Int} (g : GC w L 1 v' (l.length + 1) (vs ++ [u])) (hL : ∀ b, L b → D b) (hlen : vs.length = l.length) (hall : ∀ (i : Nat) c, l[i]? = some c → ∃ u, vs[i]? = some u ∧ LV vi w D u c) (hu : LV vi w D u c) : LL w D v' (l ++ [c]) := by
  obtain ⟨A, n, rfl, hr, hn⟩ := GC.row2 g (by omega)
  refine ⟨A, n, vs ++ [u], by simp, ⟨hr.mono (fun b _ h => hL b h), by simp [hlen], fun i d hd => ?_⟩, by simpa using hn⟩
  by_cases hi : i < l.length
  · rw [List.getElem?_append_left hi] at hd
    obtain ⟨y, g1, g2⟩ := hall i d hd
    exact ⟨y, by rw [List.getElem?_append_left (by omega)]; exact g1, g2⟩
  · rw [List.getElem?_append_right (by omega)] at hd
    have hz : i - l.length = 0 := by
      have := (List.getElem?_eq_some_iff.1 hd).1; simp at this; omega
    rw [hz] at hd
    simp at hd; subst hd
    exact ⟨u, by rw [List.getElem?_append_right (by omega), hlen, hz]; rfl, hu⟩
def AddX (w : World) (O : Nat → Prop) (a b : Value) (x : X11) (l : List Int) (r : Value) (w' : World) : Prop :=
  ((∀ y ∈ l, 0 ≤ y ∧ y < 2 * x.vars) ∧ ∃ a' b', r = .tuple #[.agg ⟨[vi x.vars, a', b']⟩, vi x.P.length, vi 0] ∧ XR w' O a' b' (x.add l) ∧ Keep w w' No) ∨
  (¬ (∀ y ∈ l, 0 ≤ y ∧ y < 2 * x.vars) ∧ r = .tuple #[.agg ⟨[vi x.vars, a, b]⟩, vi 0, vi 10] ∧ Keep w w' No)
set_option maxHeartbeats 2000000 in
theorem radd_ret (h : XR w O a b x) (hO : ∀ b, O b → b < w.heap.size) {v : Value} {l : List Int} (hl : LV vi w (fun b => ¬ O b) v l) (hI : ∀ y ∈ l, I64 y) (hlf : l.length ≤ 1000000) (hp : x.P.length ≤ 1000000) (hv : x.vars ≤ 1048576) :
    Ret Try.prog 34 #[.agg ⟨[vi x.vars, a, b]⟩, v] w (AddX w O a b x l) := by
  obtain ⟨⟨A, c, vs, rfl, hll, _⟩, B, c2, rfl, hr, _⟩ := id h
  obtain ⟨Q, cq, rfl, hq, hqc⟩ := id hl
  have e1 : (x.P.map (·.1)).length = x.P.length := List.length_map _
  have e2 : (x.P.map (·.2)).length = x.P.length := List.length_map _
  refine ok34 _ _ _ _ ?_
  unfold sh34
  refine M.new_i (l := [vi x.vars, .slice A (x.P.map (·.1)).length c, .slice B (x.P.map (·.2)).length c2]) (fun w1 b1 k1 s1 => ?_)
  refine M.new_i (l := [vi 0, .slice none 0 0, .slice none 0 0]) (fun w2 b2 k2 s2 => ?_)
  have b1 := b1.keep k2 (fun h => h)
  have k12 := k1.trans k2 (fun _ _ h => h)
  refine M.loop_i (σ := Nat) (fun i vals w' => vals = [vi i] ∧ i ≤ l.length ∧ (∀ y ∈ l.take i, 0 ≤ y ∧ y < 2 * x.vars) ∧ Keep w2 w' No) (fun i => l.length - i) 0 ⟨rfl, by omega, by simp, Keep.refl _ _⟩ ?_
  rintro i vals w3 K ⟨rfl, hi, hok, k3⟩ hK _
  simp only [List.getD_cons_zero, List.getD_cons_succ]
  by_cases hlt : i < l.length
  · obtain ⟨y, hy⟩ : ∃ y, l[i]? = some y := ⟨_, List.getElem?_eq_getElem hlt⟩
    have kd := k3.trans (Keep.drew w3 No) (fun _ _ h => h)
    have hq3 := (hq.keep k12 (fun _ _ _ h => h)).keep kd (fun _ _ _ h => h)
    have b1 := b1.keep kd (fun h => h)
    have b2 := b2.keep kd (fun h => h)
    have hIy := hI y (List.mem_of_getElem? hy)
    (repeat (first|refine ja ?_|refine jb ?_|refine jc ?_|refine jd ?_|refine je ?_|refine jf ?_|refine jg ?_|refine jh ?_|refine ji ?_|refine jj ?_|refine jk ?_|refine jl ?_|refine jm ?_|refine jn ?_|refine jo ?_|refine jp ?_|refine jq ?_|refine jr ?_|refine js ?_|refine jt ?_|refine ju ?_|refine jv ?_|refine jw ?_|refine jx ?_|refine jy ?_|refine jz ?_|refine jA ?_|refine jB ?_|refine jC ?_|refine jD ?_|refine jE ?_|refine jF ?_|refine jG ?_|refine jH ?_|refine jI ?_|refine jJ ?_|refine jK ?_|refine jL ?_|refine jM (by assumption) ?_|refine jN (by assumption) rfl ?_|refine jO (by assumption) ?_|refine jP (by assumption) rfl ?_|refine jQ ?_|refine jR ?_|refine jS ?_|refine jT ?_|refine jU (by assumption) rfl ?_))
    refine M.idxLV_i hq3 rfl (by omega) (by omega) (x := y) (by rw [Int.toNat_natCast]; exact hy) (fun bb oo hA hcc => ?_)
    have bad : ∀ w4, ¬ (0 ≤ y ∧ y < 2 * x.vars) → Keep w2 w4 (· = w1.heap.size) → AddX w O (.slice A (x.P.map (·.1)).length c) (.slice B (x.P.map (·.2)).length c2) x l (.tuple #[.agg ⟨[vi x.vars, .slice A (x.P.map (·.1)).length c, .slice B (x.P.map (·.2)).length c2]⟩, vi 0, vi 10]) w4 := fun w4 hy' k4 =>
      .inr ⟨fun h' => hy' (h' y (List.mem_of_getElem? hy)), rfl, (k12.trans k4 (fun j hj e => by have e : j = w1.heap.size := e; omega))⟩
    by_cases h0 : y < 0
    · (repeat (first|refine ja ?_|refine jb ?_|refine jc ?_|refine jd ?_|refine je ?_|refine jf ?_|refine jg ?_|refine jh ?_|refine ji ?_|refine jj ?_|refine jk ?_|refine jl ?_|refine jm ?_|refine jn ?_|refine jo ?_|refine jp ?_|refine jq ?_|refine jr ?_|refine js ?_|refine jt ?_|refine ju ?_|refine jv ?_|refine jw ?_|refine jx ?_|refine jy ?_|refine jz ?_|refine jA ?_|refine jB ?_|refine jC ?_|refine jD ?_|refine jE ?_|refine jF ?_|refine jG ?_|refine jH ?_|refine jI ?_|refine jJ ?_|refine jK ?_|refine jL ?_|refine jM (by assumption) ?_|refine jN (by assumption) rfl ?_|refine jO (by assumption) ?_|refine jP (by assumption) rfl ?_|refine jQ ?_|refine jR ?_|refine jS ?_|refine jT ?_|refine jU (by assumption) rfl ?_))
      refine M.loadAll_i b1 rfl ?_
      refine M.storeAll_i b2 rfl rfl (List.all_eq_true.1 rfl) (fun w4 b4 k4 s4 => ?_)
      refine M.loadAll_i b4 rfl ?_
      exact bad _ (by omega) ((kd.mono (fun _ _ e => e.elim)).trans k4 (fun _ _ h => h))
    · (repeat (first|refine ja ?_|refine jb ?_|refine jc ?_|refine jd ?_|refine je ?_|refine jf ?_|refine jg ?_|refine jh ?_|refine ji ?_|refine jj ?_|refine jk ?_|refine jl ?_|refine jm ?_|refine jn ?_|refine jo ?_|refine jp ?_|refine jq ?_|refine jr ?_|refine js ?_|refine jt ?_|refine ju ?_|refine jv ?_|refine jw ?_|refine jx ?_|refine jy ?_|refine jz ?_|refine jA ?_|refine jB ?_|refine jC ?_|refine jD ?_|refine jE ?_|refine jF ?_|refine jG ?_|refine jH ?_|refine jI ?_|refine jJ ?_|refine jK ?_|refine jL ?_|refine jM (by assumption) ?_|refine jN (by assumption) rfl ?_|refine jO (by assumption) ?_|refine jP (by assumption) rfl ?_|refine jQ ?_|refine jR ?_|refine jS ?_|refine jT ?_|refine jU (by assumption) rfl ?_))
      refine M.idxLV_i hq3 rfl (by omega) (by omega) (x := y) (by rw [Int.toNat_natCast]; exact hy) (fun bb oo hA hcc => ?_)
      (repeat (first|refine ja ?_|refine jb ?_|refine jc ?_|refine jd ?_|refine je ?_|refine jf ?_|refine jg ?_|refine jh ?_|refine ji ?_|refine jj ?_|refine jk ?_|refine jl ?_|refine jm ?_|refine jn ?_|refine jo ?_|refine jp ?_|refine jq ?_|refine jr ?_|refine js ?_|refine jt ?_|refine ju ?_|refine jv ?_|refine jw ?_|refine jx ?_|refine jy ?_|refine jz ?_|refine jA ?_|refine jB ?_|refine jC ?_|refine jD ?_|refine jE ?_|refine jF ?_|refine jG ?_|refine jH ?_|refine jI ?_|refine jJ ?_|refine jK ?_|refine jL ?_|refine jM (by assumption) ?_|refine jN (by assumption) rfl ?_|refine jO (by assumption) ?_|refine jP (by assumption) rfl ?_|refine jQ ?_|refine jR ?_|refine jS ?_|refine jT ?_|refine jU (by assumption) rfl ?_))
      refine M.quo2_i (by omega) hIy.2 ?_
      by_cases h1 : (x.vars : Int) ≤ y / 2
      · (repeat (first|refine ja ?_|refine jb ?_|refine jc ?_|refine jd ?_|refine je ?_|refine jf ?_|refine jg ?_|refine jh ?_|refine ji ?_|refine jj ?_|refine jk ?_|refine jl ?_|refine jm ?_|refine jn ?_|refine jo ?_|refine jp ?_|refine jq ?_|refine jr ?_|refine js ?_|refine jt ?_|refine ju ?_|refine jv ?_|refine jw ?_|refine jx ?_|refine jy ?_|refine jz ?_|refine jA ?_|refine jB ?_|refine jC ?_|refine jD ?_|refine jE ?_|refine jF ?_|refine jG ?_|refine jH ?_|refine jI ?_|refine jJ ?_|refine jK ?_|refine jL ?_|refine jM (by assumption) ?_|refine jN (by assumption) rfl ?_|refine jO (by assumption) ?_|refine jP (by assumption) rfl ?_|refine jQ ?_|refine jR ?_|refine jS ?_|refine jT ?_|refine jU (by assumption) rfl ?_))
        refine M.loadAll_i b1 rfl ?_
        refine M.storeAll_i b2 rfl rfl (List.all_eq_true.1 rfl) (fun w4 b4 k4 s4 => ?_)
        refine M.loadAll_i b4 rfl ?_
        exact bad _ (by omega) ((kd.mono (fun _ _ e => e.elim)).trans k4 (fun _ _ h => h))
      · (repeat (first|refine ja ?_|refine jb ?_|refine jc ?_|refine jd ?_|refine je ?_|refine jf ?_|refine jg ?_|refine jh ?_|refine ji ?_|refine jj ?_|refine jk ?_|refine jl ?_|refine jm ?_|refine jn ?_|refine jo ?_|refine jp ?_|refine jq ?_|refine jr ?_|refine js ?_|refine jt ?_|refine ju ?_|refine jv ?_|refine jw ?_|refine jx ?_|refine jy ?_|refine jz ?_|refine jA ?_|refine jB ?_|refine jC ?_|refine jD ?_|refine jE ?_|refine jF ?_|refine jG ?_|refine jH ?_|refine jI ?_|refine jJ ?_|refine jK ?_|refine jL ?_|refine jM (by assumption) ?_|refine jN (by assumption) rfl ?_|refine jO (by assumption) ?_|refine jP (by assumption) rfl ?_|refine jQ ?_|refine jR ?_|refine jS ?_|refine jT ?_|refine jU (by assumption) rfl ?_))
        refine hK (i + 1) _ _ (by omega) ⟨rfl, by omega, fun z hz => ?_, kd⟩
        rcases (mem_take_succ hy).1 hz with hz | rfl
        · exact hok z hz
        · omega
  · have hi' : i = l.length := by omega
    subst hi'
    rw [List.take_length] at hok
    have b1 := b1.keep k3 (fun h => h)
    have b2 := b2.keep k3 (fun h => h)
    have k13 := k12.trans k3 (fun _ _ h => h)
    have hll3 := hll.keep k13 (fun _ _ _ h => h)
    have hr3 := hr.keep k13 (fun _ _ _ h => h)
    (repeat (first|refine ja ?_|refine jb ?_|refine jc ?_|refine jd ?_|refine je ?_|refine jf ?_|refine jg ?_|refine jh ?_|refine ji ?_|refine jj ?_|refine jk ?_|refine jl ?_|refine jm ?_|refine jn ?_|refine jo ?_|refine jp ?_|refine jq ?_|refine jr ?_|refine js ?_|refine jt ?_|refine ju ?_|refine jv ?_|refine jw ?_|refine jx ?_|refine jy ?_|refine jz ?_|refine jA ?_|refine jB ?_|refine jC ?_|refine jD ?_|refine jE ?_|refine jF ?_|refine jG ?_|refine jH ?_|refine jI ?_|refine jJ ?_|refine jK ?_|refine jL ?_|refine jM (by assumption) ?_|refine jN (by assumption) rfl ?_|refine jO (by assumption) ?_|refine jP (by assumption) rfl ?_|refine jQ ?_|refine jR ?_|refine jS ?_|refine jT ?_|refine jU (by assumption) rfl ?_))
    refine M.append_i (GC.nil w3 No 1) hll3.row (by rw [hll3.len]; omega) hll3.one rfl (by omega) (by omega) (fun v4 w4 g4 k4 => ?_)
    simp only [Nat.zero_add, List.nil_append] at g4
    have b1 := b1.keep k4 (fun h => h)
    have b2 := b2.keep k4 (fun h => h)
    refine M.buildSlice_i [.slice Q l.length cq] (by kernel_rfl) (fun w5 b5 k5 s5 => ?_)
    have b1 := b1.keep k5 (fun h => h)
    have b2 := b2.keep k5 (fun h => h)
    have g5 := g4.keep k5 (fun _ _ _ h => h)
    refine M.append_i g5 (Row.of_blk' (D := fun _ => True) b5 trivial) rfl (by simp; rfl) rfl (by omega) (by omega) (fun v6 w6 g6 k6 => ?_)
    have q1 := k13.size
    have q3 := k3.size
    have q4 := k4.size
    have q5 := k5.size
    have q6 := k6.size
    have kA := ((k13.trans k4 (fun _ _ h => h)).trans k5 (fun _ _ h => h)).trans k6 (fun j hj e => by
      rcases e with e | e
      · exact e
      · omega)
    have b1 := b1.keep k6 (by
      rintro (e | e)
      · exact e
      · omega)
    have b2 := b2.keep k6 (by
      rintro (e | e)
      · exact e
      · omega)
    (repeat (first|refine ja ?_|refine jb ?_|refine jc ?_|refine jd ?_|refine je ?_|refine jf ?_|refine jg ?_|refine jh ?_|refine ji ?_|refine jj ?_|refine jk ?_|refine jl ?_|refine jm ?_|refine jn ?_|refine jo ?_|refine jp ?_|refine jq ?_|refine jr ?_|refine js ?_|refine jt ?_|refine ju ?_|refine jv ?_|refine jw ?_|refine jx ?_|refine jy ?_|refine jz ?_|refine jA ?_|refine jB ?_|refine jC ?_|refine jD ?_|refine jE ?_|refine jF ?_|refine jG ?_|refine jH ?_|refine jI ?_|refine jJ ?_|refine jK ?_|refine jL ?_|refine jM (by assumption) ?_|refine jN (by assumption) rfl ?_|refine jO (by assumption) ?_|refine jP (by assumption) rfl ?_|refine jQ ?_|refine jR ?_|refine jS ?_|refine jT ?_|refine jU (by assumption) rfl ?_))
    refine M.store_i b1 (by simp) (by obtain ⟨_, _, rfl, _⟩ := GC.row2 g6 (by omega); rfl) (fun w7 b7 k7 s7 => ?_)
    have b2 := b2.keep k7 (by omega)
    have kB := kA.trans k7 (fun j hj e => by have e : j = w.heap.size := e; omega)
    have g7 := g6.keep k7 (fun b hb e e2 => by
      rcases e with (e | e) | e
      · exact e
      · omega
      · omega)
    have hr7 := hr.keep kB (fun _ _ _ h => h)
    simp only [Nat.zero_add, List.set_cons_succ, List.set_cons_zero] at b7
    (repeat (first|refine ja ?_|refine jb ?_|refine jc ?_|refine jd ?_|refine je ?_|refine jf ?_|refine jg ?_|refine jh ?_|refine ji ?_|refine jj ?_|refine jk ?_|refine jl ?_|refine jm ?_|refine jn ?_|refine jo ?_|refine jp ?_|refine jq ?_|refine jr ?_|refine js ?_|refine jt ?_|refine ju ?_|refine jv ?_|refine jw ?_|refine jx ?_|refine jy ?_|refine jz ?_|refine jA ?_|refine jB ?_|refine jC ?_|refine jD ?_|refine jE ?_|refine jF ?_|refine jG ?_|refine jH ?_|refine jI ?_|refine jJ ?_|refine jK ?_|refine jL ?_|refine jM (by assumption) ?_|refine jN (by assumption) rfl ?_|refine jO (by assumption) ?_|refine jP (by assumption) rfl ?_|refine jQ ?_|refine jR ?_|refine jS ?_|refine jT ?_|refine jU (by assumption) rfl ?_))
    refine M.append_i (GC.nil w7 No 1) hr7 (by rw [List.length_map]; omega) (fun y hy => by obtain ⟨_, _, rfl⟩ := List.mem_map.1 hy; rfl) rfl (by omega) (by omega) (fun v8 w8 g8 k8 => ?_)
    simp only [Nat.zero_add, List.nil_append] at g8
    have b7 := b7.keep k8 (fun h => h)
    have b2 := b2.keep k8 (fun h => h)
    refine M.buildSlice_i [vb true] (by kernel_rfl) (fun w9 b9 k9 s9 => ?_)
    have b7 := b7.keep k9 (fun h => h)
    have b2 := b2.keep k9 (fun h => h)
    have g9 := g8.keep k9 (fun _ _ _ h => h)
    refine M.append_i g9 (Row.of_blk' (D := fun _ => True) b9 trivial) rfl (by simp; rfl) rfl (by omega) (by omega) (fun v10 w10 g10 k10 => ?_)
    have q8 := k8.size
    have q9 := k9.size
    have q10 := k10.size
    have hs10 : ∀ j, j < w7.heap.size → ¬ (No j ∨ w7.heap.size ≤ j) := fun j hj e => by
      rcases e with e | e
      · exact e
      · omega
    have b7 := b7.keep k10 (hs10 _ (by omega))
    have b2 := b2.keep k10 (hs10 _ (by omega))
    have g7 := g7.mono (L' := fun b => b < w7.heap.size ∧ w3.heap.size ≤ b) (fun b hb e => by
      rcases e with (e | e) | e
      · exact e.elim
      · exact ⟨hb, e⟩
      · exact ⟨hb, by omega⟩)
    have g7 := ((g7.keep k8 (fun _ _ _ h => h)).keep k9 (fun _ _ _ h => h)).keep k10 (fun b hb e => hs10 b e.1)
    have kC := ((kB.trans k8 (fun _ _ h => h)).trans k9 (fun _ _ h => h)).trans k10 (fun j hj e => by
      rcases e with e | e
      · exact e
      · omega)
    (repeat (first|refine ja ?_|refine jb ?_|refine jc ?_|refine jd ?_|refine je ?_|refine jf ?_|refine jg ?_|refine jh ?_|refine ji ?_|refine jj ?_|refine jk ?_|refine jl ?_|refine jm ?_|refine jn ?_|refine jo ?_|refine jp ?_|refine jq ?_|refine jr ?_|refine js ?_|refine jt ?_|refine ju ?_|refine jv ?_|refine jw ?_|refine jx ?_|refine jy ?_|refine jz ?_|refine jA ?_|refine jB ?_|refine jC ?_|refine jD ?_|refine jE ?_|refine jF ?_|refine jG ?_|refine jH ?_|refine jI ?_|refine jJ ?_|refine jK ?_|refine jL ?_|refine jM (by assumption) ?_|refine jN (by assumption) rfl ?_|refine jO (by assumption) ?_|refine jP (by assumption) rfl ?_|refine jQ ?_|refine jR ?_|refine jS ?_|refine jT ?_|refine jU (by assumption) rfl ?_))
    refine M.store_i b7 (by simp) g10.one (fun w11 b11 k11 s11 => ?_)
    simp only [Nat.zero_add, List.set_cons_succ, List.set_cons_zero] at b11
    have b2 := b2.keep k11 (by omega)
    have kD := kC.trans k11 (fun j hj e => by have e : j = w.heap.size := e; omega)
    have g7 := g7.keep k11 (fun b hb e e2 => by have e2 : b = w.heap.size := e2; omega)
    have g10 := g10.keep k11 (fun b hb e e2 => by
      have e2 : b = w.heap.size := e2
      rcases e with (e | e) | e
      · exact e
      · omega
      · omega)
    obtain ⟨A7, c7, rfl, _, _⟩ := GC.row2 g7 (by omega)
    (repeat (first|refine ja ?_|refine jb ?_|refine jc ?_|refine jd ?_|refine je ?_|refine jf ?_|refine jg ?_|refine jh ?_|refine ji ?_|refine jj ?_|refine jk ?_|refine jl ?_|refine jm ?_|refine jn ?_|refine jo ?_|refine jp ?_|refine jq ?_|refine jr ?_|refine js ?_|refine jt ?_|refine ju ?_|refine jv ?_|refine jw ?_|refine jx ?_|refine jy ?_|refine jz ?_|refine jA ?_|refine jB ?_|refine jC ?_|refine jD ?_|refine jE ?_|refine jF ?_|refine jG ?_|refine jH ?_|refine jI ?_|refine jJ ?_|refine jK ?_|refine jL ?_|refine jM (by assumption) ?_|refine jN (by assumption) rfl ?_|refine jO (by assumption) ?_|refine jP (by assumption) rfl ?_|refine jQ ?_|refine jR ?_|refine jS ?_|refine jT ?_|refine jU (by assumption) rfl ?_))
    refine M.loadAll_i b11 rfl ?_
    (repeat (first|refine ja ?_|refine jb ?_|refine jc ?_|refine jd ?_|refine je ?_|refine jf ?_|refine jg ?_|refine jh ?_|refine ji ?_|refine jj ?_|refine jk ?_|refine jl ?_|refine jm ?_|refine jn ?_|refine jo ?_|refine jp ?_|refine jq ?_|refine jr ?_|refine js ?_|refine jt ?_|refine ju ?_|refine jv ?_|refine jw ?_|refine jx ?_|refine jy ?_|refine jz ?_|refine jA ?_|refine jB ?_|refine jC ?_|refine jD ?_|refine jE ?_|refine jF ?_|refine jG ?_|refine jH ?_|refine jI ?_|refine jJ ?_|refine jK ?_|refine jL ?_|refine jM (by assumption) ?_|refine jN (by assumption) rfl ?_|refine jO (by assumption) ?_|refine jP (by assumption) rfl ?_|refine jQ ?_|refine jR ?_|refine jS ?_|refine jT ?_|refine jU (by assumption) rfl ?_))
    refine M.storeAll_i b2 rfl rfl (by simp only [List.mem_cons, List.not_mem_nil, or_false, forall_eq_or_imp, forall_eq]; exact ⟨rfl, rfl, g10.one⟩) (fun w12 b12 k12' s12 => ?_)
    have k12' := k12'.of_drew
    have b11 := b11.keep k12' (by omega)
    have g7 := g7.keep k12' (fun b hb e e2 => by have e2 : b = w1.heap.size := e2; omega)
    have g10 := g10.keep k12' (fun b hb e e2 => by
      have e2 : b = w1.heap.size := e2
      rcases e with (e | e) | e
      · exact e
      · omega
      · omega)
    have kE := kD.trans k12' (fun j hj e => by have e : j = w1.heap.size := e; omega)
    (repeat (first|refine ja ?_|refine jb ?_|refine jc ?_|refine jd ?_|refine je ?_|refine jf ?_|refine jg ?_|refine jh ?_|refine ji ?_|refine jj ?_|refine jk ?_|refine jl ?_|refine jm ?_|refine jn ?_|refine jo ?_|refine jp ?_|refine jq ?_|refine jr ?_|refine js ?_|refine jt ?_|refine ju ?_|refine jv ?_|refine jw ?_|refine jx ?_|refine jy ?_|refine jz ?_|refine jA ?_|refine jB ?_|refine jC ?_|refine jD ?_|refine jE ?_|refine jF ?_|refine jG ?_|refine jH ?_|refine jI ?_|refine jJ ?_|refine jK ?_|refine jL ?_|refine jM (by assumption) ?_|refine jN (by assumption) rfl ?_|refine jO (by assumption) ?_|refine jP (by assumption) rfl ?_|refine jQ ?_|refine jR ?_|refine jS ?_|refine jT ?_|refine jU (by assumption) rfl ?_))
    refine M.loadAll_i b12 rfl ?_
    have hn : (((x.P.map (·.1)).length + 1 : Nat) : Int) - 1 = x.P.length := by omega
    rw [hn]
    refine .inl ⟨hok, _, _, rfl, ⟨?_, ?_⟩, kE⟩
    · have g := LL.snoc (w := w12) (D := fun b => ¬ O b) (l := x.P.map (·.1)) (c := l) g7 (fun b e e2 => by have := hO b e2; omega) hll.len (fun i d hd => by
        obtain ⟨u, h1, h2⟩ := hll.all i d hd
        exact ⟨u, h1, h2.keep kE (fun _ _ _ h => h)⟩) (hl.keep kE (fun _ _ _ h => h))
      show LL w12 _ _ ((x.P ++ [(l, true)]).map (·.1))
      rw [List.map_append]
      exact g
    · obtain ⟨A10, c10, rfl, hr10, hc10⟩ := GC.row2 g10 (by omega)
      show LV vb w12 _ _ ((x.P ++ [(l, true)]).map (·.2))
      refine ⟨A10, c10, by simp, ?_, by simpa using hc10⟩
      rw [List.map_append, List.map_append]
      exact hr10.mono (fun b hb e e2 => by
        have := hO b e2
        rcases e with (e | e) | e
        · exact e
        · omega
        · omega)
theorem rem_fst (i : Int) : (x.rem i).P.map (·.1) = x.P.map (·.1) := by
  unfold X11.rem
  split
  · refine List.ext_getElem? fun j => ?_
    simp only [List.getElem?_map, List.getElem?_set]
    split
    · rename_i e
      subst e
      split
      · rename_i h1
        simp [List.getD_eq_getElem?_getD, List.getElem?_eq_getElem h1]
      · rename_i h1
        rw [List.getElem?_eq_none (by omega)]
    · rfl
  · rfl
theorem rem_snd {i : Int} (hi : isX x i = true) : (x.rem i).P.map (·.2) = (x.P.map (·.2)).set i.toNat false := by
  unfold X11.rem
  rw [if_pos hi, List.map_set]
theorem isX_lt {i : Int} (hi : isX x i = true) : 0 ≤ i ∧ i.toNat < x.P.length := by
  unfold isX at hi
  simp only [Bool.and_eq_true, decide_eq_true_eq] at hi
  refine ⟨hi.1, ?_⟩
  cases h : x.P[i.toNat]? with
  | none => rw [h] at hi; exact absurd hi.2 (by simp)
  | some p => exact (List.getElem?_eq_some_iff.1 h).1
set_option maxHeartbeats 1000000 in
theorem rrem_ret (h : XR w O a b x) (hO : ∀ b, O b → b < w.heap.size) (hp : x.P.length ≤ 1000000) (i : Int) :
    Ret Try.prog 36 #[.agg ⟨[vi x.vars, a, b]⟩, vi i] w (fun r w' => ∃ b', r = .tuple #[.agg ⟨[vi x.vars, a, b']⟩, .bool (isX x i)] ∧ XR w' O a b' (x.rem i) ∧ Keep w w' No) := by
  have e2 : (x.P.map (·.2)).length = x.P.length := List.length_map _
  have hA1 := h.1.one
  refine ok36 _ _ _ _ ?_
  unfold sh36
  refine M.new_i (l := [vi x.vars, a, b]) (fun w1 b1 k1 s1 => ?_)
  refine M.new_i (l := [vi 0, .slice none 0 0, .slice none 0 0]) (fun w2 b2 k2 s2 => ?_)
  have b1 := b1.keep k2 (fun h => h)
  have k12 := k1.trans k2 (fun _ _ h => h)
  refine M.loadAll_i b1 rfl ?_
  refine M.call_i (ris_ret (h.keepN k12) i) ?_; rintro _ w3 ⟨rfl, k3⟩
  have b1 := b1.keep k3 (fun h => h)
  have b2 := b2.keep k3 (fun h => h)
  have k13 := k12.trans k3 (fun _ _ h => h)
  have h3 := h.keepN k13
  have q3 := k3.size
  cases hi : isX x i with
  | false =>
    (repeat (first|refine ja ?_|refine jb ?_|refine jc ?_|refine jd ?_|refine je ?_|refine jf ?_|refine jg ?_|refine jh ?_|refine ji ?_|refine jj ?_|refine jk ?_|refine jl ?_|refine jm ?_|refine jn ?_|refine jo ?_|refine jp ?_|refine jq ?_|refine jr ?_|refine js ?_|refine jt ?_|refine ju ?_|refine jv ?_|refine jw ?_|refine jx ?_|refine jy ?_|refine jz ?_|refine jA ?_|refine jB ?_|refine jC ?_|refine jD ?_|refine jE ?_|refine jF ?_|refine jG ?_|refine jH ?_|refine jI ?_|refine jJ ?_|refine jK ?_|refine jL ?_|refine jM (by assumption) ?_|refine jN (by assumption) rfl ?_|refine jO (by assumption) ?_|refine jP (by assumption) rfl ?_|refine jQ ?_|refine jR ?_|refine jS ?_|refine jT ?_|refine jU (by assumption) rfl ?_))
    refine M.loadAll_i b1 rfl ?_
    refine M.storeAll_i b2 rfl rfl (by simp only [List.mem_cons, List.not_mem_nil, or_false, forall_eq_or_imp, forall_eq]; exact ⟨rfl, hA1, LV.one h.2⟩) (fun w4 b4 k4 s4 => ?_)
    have k14 := k13.trans k4 (fun j hj e => by have e : j = w1.heap.size := e; omega)
    refine M.loadAll_i b4 rfl ?_
    have e : x.rem i = x := by unfold X11.rem; rw [hi]; rfl
    rw [e]
    exact ⟨b, rfl, h.keepN k14, k14⟩
  | true =>
    obtain ⟨h0, hlt⟩ := isX_lt hi
    obtain ⟨⟨A, c, vs, rfl, hll, _⟩, B, c2, rfl, hr, _⟩ := id h3
    (repeat (first|refine ja ?_|refine jb ?_|refine jc ?_|refine jd ?_|refine je ?_|refine jf ?_|refine jg ?_|refine jh ?_|refine ji ?_|refine jj ?_|refine jk ?_|refine jl ?_|refine jm ?_|refine jn ?_|refine jo ?_|refine jp ?_|refine jq ?_|refine jr ?_|refine js ?_|refine jt ?_|refine ju ?_|refine jv ?_|refine jw ?_|refine jx ?_|refine jy ?_|refine jz ?_|refine jA ?_|refine jB ?_|refine jC ?_|refine jD ?_|refine jE ?_|refine jF ?_|refine jG ?_|refine jH ?_|refine jI ?_|refine jJ ?_|refine jK ?_|refine jL ?_|refine jM (by assumption) ?_|refine jN (by assumption) rfl ?_|refine jO (by assumption) ?_|refine jP (by assumption) rfl ?_|refine jQ ?_|refine jR ?_|refine jS ?_|refine jT ?_|refine jU (by assumption) rfl ?_))
    refine M.append_i (GC.nil w3 No 1) hr (by rw [List.length_map]; omega) (fun y hy => by obtain ⟨_, _, rfl⟩ := List.mem_map.1 hy; rfl) rfl (by omega) (by omega) (fun v4 w4 g4 k4 => ?_)
    simp only [Nat.zero_add, List.nil_append] at g4
    have b1 := b1.keep k4 (fun h => h)
    have b2 := b2.keep k4 (fun h => h)
    have q4 := k4.size
    (repeat (first|refine ja ?_|refine jb ?_|refine jc ?_|refine jd ?_|refine je ?_|refine jf ?_|refine jg ?_|refine jh ?_|refine ji ?_|refine jj ?_|refine jk ?_|refine jl ?_|refine jm ?_|refine jn ?_|refine jo ?_|refine jp ?_|refine jq ?_|refine jr ?_|refine js ?_|refine jt ?_|refine ju ?_|refine jv ?_|refine jw ?_|refine jx ?_|refine jy ?_|refine jz ?_|refine jA ?_|refine jB ?_|refine jC ?_|refine jD ?_|refine jE ?_|refine jF ?_|refine jG ?_|refine jH ?_|refine jI ?_|refine jJ ?_|refine jK ?_|refine jL ?_|refine jM (by assumption) ?_|refine jN (by assumption) rfl ?_|refine jO (by assumption) ?_|refine jP (by assumption) rfl ?_|refine jQ ?_|refine jR ?_|refine jS ?_|refine jT ?_|refine jU (by assumption) rfl ?_))
    refine M.store_i b1 (by simp) g4.one (fun w5 b5 k5 s5 => ?_)
    simp only [Nat.zero_add, List.set_cons_succ, List.set_cons_zero] at b5
    have b2 := b2.keep k5 (by omega)
    have g5 := g4.keep k5 (fun b hb e e2 => by
      have e2 : b = w.heap.size := e2
      rcases e with e | e
      · exact e
      · omega)
    have g5 : GC w5 (fun b => No b ∨ w3.heap.size ≤ b) 1 v4 ((x.P.map (·.2)).map vb).length ((x.P.map (·.2)).map vb) := by rw [List.length_map]; exact g5
    (repeat (first|refine ja ?_|refine jb ?_|refine jc ?_|refine jd ?_|refine je ?_|refine jf ?_|refine jg ?_|refine jh ?_|refine ji ?_|refine jj ?_|refine jk ?_|refine jl ?_|refine jm ?_|refine jn ?_|refine jo ?_|refine jp ?_|refine jq ?_|refine jr ?_|refine js ?_|refine jt ?_|refine ju ?_|refine jv ?_|refine jw ?_|refine jx ?_|refine jy ?_|refine jz ?_|refine jA ?_|refine jB ?_|refine jC ?_|refine jD ?_|refine jE ?_|refine jF ?_|refine jG ?_|refine jH ?_|refine jI ?_|refine jJ ?_|refine jK ?_|refine jL ?_|refine jM (by assumption) ?_|refine jN (by assumption) rfl ?_|refine jO (by assumption) ?_|refine jP (by assumption) rfl ?_|refine jQ ?_|refine jR ?_|refine jS ?_|refine jT ?_|refine jU (by assumption) rfl ?_))
    have ei : i = ((i.toNat : Nat) : Int) := by omega
    rw [ei]
    refine M.idxStoreV_i g5 (by rw [List.length_map]; omega) rfl (fun w6 g6 k6 s6 => ?_)
    have hs6 : ∀ j, j < w3.heap.size → ¬ (No j ∨ w3.heap.size ≤ j) := fun j hj e => by
      rcases e with e | e
      · exact e
      · omega
    have b5 := b5.keep k6 (hs6 _ (by omega))
    have b2 := b2.keep k6 (hs6 _ (by omega))
    refine M.loadAll_i b5 rfl ?_
    refine M.storeAll_i b2 rfl rfl (by simp only [List.mem_cons, List.not_mem_nil, or_false, forall_eq_or_imp, forall_eq]; exact ⟨rfl, hA1, g4.one⟩) (fun w7 b7 k7 s7 => ?_)
    refine M.loadAll_i b7 rfl ?_
    have k17 := (((k13.trans k4 (fun _ _ h => h)).trans k5 (fun j hj e => by have e : j = w.heap.size := e; omega)).trans k6 (fun j hj e => (hs6 j (by omega) e).elim)).trans k7 (fun j hj e => by have e : j = w1.heap.size := e; omega)
    have g7 := g6.keep k7 (fun b hb e e2 => by
      have e2 : b = w1.heap.size := e2
      rcases e with e | e
      · exact e
      · omega)
    rw [← ei]
    refine ⟨_, rfl, ⟨?_, ?_⟩, k17⟩
    · rw [rem_fst]
      exact (h.keepN k17).1
    · rw [rem_snd hi]
      obtain ⟨A7, c7, rfl, hr7, hc7⟩ := GC.row2 g7 (by omega)
      rw [List.length_map] at hc7
      refine ⟨A7, c7, by simp, ?_, by simpa using hc7⟩
      rw [List.map_set]
      exact hr7.mono (fun b hb e e2 => by
        have := hO b e2
        rcases e with e | e
        · exact e
        · omega)
theorem allC_snoc (P : List (List Int × Bool)) (p : List Int × Bool) : allC (P ++ [p]) = allC P ++ if p.2 then [p.1] else [] := by
  unfold allC
  rw [List.filter_append, List.map_append]
  cases h : p.2 <;> simp [List.filter_cons, h]
theorem allC_le (P : List (List Int × Bool)) : (allC P).length ≤ P.length := by
  unfold allC
  rw [List.length_map]; exact List.length_filter_le _ _
set_option maxHeartbeats 1000000 in
theorem rall_ret (h : XR w O a b x) (hp : x.P.length ≤ 1000000) :
    Ret Try.prog 18 #[.agg ⟨[vi x.vars, a, b]⟩] w (fun r w' => LL w' (fun _ => True) r (allC x.P) ∧ Keep w w' No) := by
  obtain ⟨⟨A, c, vs, rfl, hll, _⟩, B, c2, rfl, hr, _⟩ := id h
  have hll := hll.mono (D' := (· < w.heap.size)) (fun b hb _ => hb)
  have e1 : (x.P.map (·.1)).length = x.P.length := List.length_map _
  have e2 : (x.P.map (·.2)).length = x.P.length := List.length_map _
  refine ok18 _ _ _ ?_
  unfold sh18
  refine M.new_i (l := [vi x.vars, .slice A (x.P.map (·.1)).length c, .slice B (x.P.map (·.2)).length c2]) (fun w1 b1 k1 s1 => ?_)
  refine M.loop_i (σ := Nat) (fun i vals w' => ∃ vo us, vals = [vo, vi i] ∧ i ≤ x.P.length ∧ OL w1 w' vo us (allC (x.P.take i)) ∧ Keep w1 w' No) (fun i => x.P.length - i) 0
    ⟨_, _, rfl, by omega, OL.nil _ _, Keep.refl _ _⟩ ?_
  rintro i vals w2 K ⟨vo, us, rfl, hi, ho, k2⟩ hK _
  simp only [List.getD_cons_zero, List.getD_cons_succ]
  have b2 := b1.keep k2 (fun h => h)
  have k12 := k1.trans k2 (fun _ _ h => h)
  have q1 := k1.size
  have q2 := k2.size
  have hll2 := hll.keep k12 (fun _ _ _ h => h)
  have hr2 := hr.keep k12 (fun _ _ _ h => h)
  by_cases hlt : i < x.P.length
  · obtain ⟨p, hpi⟩ : ∃ p, x.P[i]? = some p := ⟨_, List.getElem?_eq_getElem hlt⟩
    have et : x.P.take (i + 1) = x.P.take i ++ [p] := by rw [List.take_add_one, hpi]; rfl
    (repeat (first|refine ja ?_|refine jb ?_|refine jc ?_|refine jd ?_|refine je ?_|refine jf ?_|refine jg ?_|refine jh ?_|refine ji ?_|refine jj ?_|refine jk ?_|refine jl ?_|refine jm ?_|refine jn ?_|refine jo ?_|refine jp ?_|refine jq ?_|refine jr ?_|refine js ?_|refine jt ?_|refine ju ?_|refine jv ?_|refine jw ?_|refine jx ?_|refine jy ?_|refine jz ?_|refine jA ?_|refine jB ?_|refine jC ?_|refine jD ?_|refine jE ?_|refine jF ?_|refine jG ?_|refine jH ?_|refine jI ?_|refine jJ ?_|refine jK ?_|refine jL ?_|refine jM (by assumption) ?_|refine jN (by assumption) rfl ?_|refine jO (by assumption) ?_|refine jP (by assumption) rfl ?_|refine jQ ?_|refine jR ?_|refine jS ?_|refine jT ?_|refine jU (by assumption) rfl ?_))
    refine M.share_j (fun vals w' => ∃ vo us, vals = [vo] ∧ OL w1 w' vo us (allC (x.P.take (i + 1))) ∧ Keep w1 w' No) ?_ ?_
    · rintro vals w3 ⟨vo, us, rfl, g1, g2⟩ _
      simp only [List.getD_cons_zero, List.getD_cons_succ]
      (repeat (first|refine ja ?_|refine jb ?_|refine jc ?_|refine jd ?_|refine je ?_|refine jf ?_|refine jg ?_|refine jh ?_|refine ji ?_|refine jj ?_|refine jk ?_|refine jl ?_|refine jm ?_|refine jn ?_|refine jo ?_|refine jp ?_|refine jq ?_|refine jr ?_|refine js ?_|refine jt ?_|refine ju ?_|refine jv ?_|refine jw ?_|refine jx ?_|refine jy ?_|refine jz ?_|refine jA ?_|refine jB ?_|refine jC ?_|refine jD ?_|refine jE ?_|refine jF ?_|refine jG ?_|refine jH ?_|refine jI ?_|refine jJ ?_|refine jK ?_|refine jL ?_|refine jM (by assumption) ?_|refine jN (by assumption) rfl ?_|refine jO (by assumption) ?_|refine jP (by assumption) rfl ?_|refine jQ ?_|refine jR ?_|refine jS ?_|refine jT ?_|refine jU (by assumption) rfl ?_))
      exact hK (i + 1) _ _ (by omega) ⟨vo, us, rfl, by omega, g1, g2⟩
    · intro K2 hK2
      (repeat (first|refine ja ?_|refine jb ?_|refine jc ?_|refine jd ?_|refine je ?_|refine jf ?_|refine jg ?_|refine jh ?_|refine ji ?_|refine jj ?_|refine jk ?_|refine jl ?_|refine jm ?_|refine jn ?_|refine jo ?_|refine jp ?_|refine jq ?_|refine jr ?_|refine js ?_|refine jt ?_|refine ju ?_|refine jv ?_|refine jw ?_|refine jx ?_|refine jy ?_|refine jz ?_|refine jA ?_|refine jB ?_|refine jC ?_|refine jD ?_|refine jE ?_|refine jF ?_|refine jG ?_|refine jH ?_|refine jI ?_|refine jJ ?_|refine jK ?_|refine jL ?_|refine jM (by assumption) ?_|refine jN (by assumption) rfl ?_|refine jO (by assumption) ?_|refine jP (by assumption) rfl ?_|refine jQ ?_|refine jR ?_|refine jS ?_|refine jT ?_|refine jU (by assumption) rfl ?_))
      refine M.idxLV_i hr2 rfl (by omega) (by omega) (x := p.2) (by rw [List.getElem?_map, Int.toNat_natCast, hpi]; rfl) (fun bb oo hA hcc => ?_)
      rw [et, allC_snoc] at hK2
      cases hb : p.2 with
      | false =>
        rw [hb] at hcc hK2
        simp only [Bool.false_eq_true, if_false, List.append_nil] at hK2
        (repeat (first|refine ja ?_|refine jb ?_|refine jc ?_|refine jd ?_|refine je ?_|refine jf ?_|refine jg ?_|refine jh ?_|refine ji ?_|refine jj ?_|refine jk ?_|refine jl ?_|refine jm ?_|refine jn ?_|refine jo ?_|refine jp ?_|refine jq ?_|refine jr ?_|refine js ?_|refine jt ?_|refine ju ?_|refine jv ?_|refine jw ?_|refine jx ?_|refine jy ?_|refine jz ?_|refine jA ?_|refine jB ?_|refine jC ?_|refine jD ?_|refine jE ?_|refine jF ?_|refine jG ?_|refine jH ?_|refine jI ?_|refine jJ ?_|refine jK ?_|refine jL ?_|refine jM (by assumption) ?_|refine jN (by assumption) rfl ?_|refine jO (by assumption) ?_|refine jP (by assumption) rfl ?_|refine jQ ?_|refine jR ?_|refine jS ?_|refine jT ?_|refine jU (by assumption) rfl ?_))
        exact hK2 _ _ ⟨vo, us, rfl, ho, k2⟩
      | true =>
        rw [hb] at hcc hK2
        simp only [if_true] at hK2
        (repeat (first|refine ja ?_|refine jb ?_|refine jc ?_|refine jd ?_|refine je ?_|refine jf ?_|refine jg ?_|refine jh ?_|refine ji ?_|refine jj ?_|refine jk ?_|refine jl ?_|refine jm ?_|refine jn ?_|refine jo ?_|refine jp ?_|refine jq ?_|refine jr ?_|refine js ?_|refine jt ?_|refine ju ?_|refine jv ?_|refine jw ?_|refine jx ?_|refine jy ?_|refine jz ?_|refine jA ?_|refine jB ?_|refine jC ?_|refine jD ?_|refine jE ?_|refine jF ?_|refine jG ?_|refine jH ?_|refine jI ?_|refine jJ ?_|refine jK ?_|refine jL ?_|refine jM (by assumption) ?_|refine jN (by assumption) rfl ?_|refine jO (by assumption) ?_|refine jP (by assumption) rfl ?_|refine jQ ?_|refine jR ?_|refine jS ?_|refine jT ?_|refine jU (by assumption) rfl ?_))
        refine M.idxLL_i hll2 (by omega) (by omega) (c := p.1) (by rw [List.getElem?_map, Int.toNat_natCast, hpi]; rfl) (fun bb oo u hcc g => ?_)
        (repeat (first|refine ja ?_|refine jb ?_|refine jc ?_|refine jd ?_|refine je ?_|refine jf ?_|refine jg ?_|refine jh ?_|refine ji ?_|refine jj ?_|refine jk ?_|refine jl ?_|refine jm ?_|refine jn ?_|refine jo ?_|refine jp ?_|refine jq ?_|refine jr ?_|refine js ?_|refine jt ?_|refine ju ?_|refine jv ?_|refine jw ?_|refine jx ?_|refine jy ?_|refine jz ?_|refine jA ?_|refine jB ?_|refine jC ?_|refine jD ?_|refine jE ?_|refine jF ?_|refine jG ?_|refine jH ?_|refine jI ?_|refine jJ ?_|refine jK ?_|refine jL ?_|refine jM (by assumption) ?_|refine jN (by assumption) rfl ?_|refine jO (by assumption) ?_|refine jP (by assumption) rfl ?_|refine jQ ?_|refine jR ?_|refine jS ?_|refine jT ?_|refine jU (by assumption) rfl ?_))
        refine M.appendOL_i ho (g.mono (fun b hb e e2 => by have := (ho.lt e2).1; omega)) q2 (by have := allC_le (x.P.take i); have := List.length_take_le i x.P; omega) (fun v' us' w' g1 g2 => ?_)
        refine hK2 _ _ ⟨v', us', rfl, g1, k2.trans g2 (fun j hj e => by omega)⟩
  · have e : i = x.P.length := by omega
    subst e
    rw [List.take_length] at ho
    (repeat (first|refine ja ?_|refine jb ?_|refine jc ?_|refine jd ?_|refine je ?_|refine jf ?_|refine jg ?_|refine jh ?_|refine ji ?_|refine jj ?_|refine jk ?_|refine jl ?_|refine jm ?_|refine jn ?_|refine jo ?_|refine jp ?_|refine jq ?_|refine jr ?_|refine js ?_|refine jt ?_|refine ju ?_|refine jv ?_|refine jw ?_|refine jx ?_|refine jy ?_|refine jz ?_|refine jA ?_|refine jB ?_|refine jC ?_|refine jD ?_|refine jE ?_|refine jF ?_|refine jG ?_|refine jH ?_|refine jI ?_|refine jJ ?_|refine jK ?_|refine jL ?_|refine jM (by assumption) ?_|refine jN (by assumption) rfl ?_|refine jO (by assumption) ?_|refine jP (by assumption) rfl ?_|refine jQ ?_|refine jR ?_|refine jS ?_|refine jT ?_|refine jU (by assumption) rfl ?_))
    exact ⟨ho.ll, k12⟩
theorem rrun11_ret (h : XR w O a b x) (hp : x.P.length ≤ 1000000) {D : Nat → Prop} {v : Value} {set : List Int} (hs : LV vi w D v set) (hf : FewL (allC x.P) set) (hI : ∀ c ∈ allC x.P, ∀ y ∈ c, I64 y) (hJ : ∀ y ∈ set, I64 y) :
    Ret Try.prog 39 #[.agg ⟨[vi x.vars, a, b]⟩, v] w (fun r w' => ∃ o out k, r = .tuple #[o, .bool k] ∧ CloseR (allC x.P) set out k ∧ GI w' (w.heap.size ≤ ·) o out ∧ Keep w w' No) := by
  have hfl : Few (allC x.P).length := by have := allC_le x.P; omega
  refine ok39 _ _ _ _ ?_
  unfold sh39
  refine M.new_i (l := [vi x.vars, a, b]) (fun w1 b1 k1 s1 => ?_)
  refine M.loadAll_i b1 rfl ?_
  refine M.call_i (rall_ret (h.keepN k1) hp) ?_; rintro _ w2 ⟨g2, k2⟩
  have k12 := k1.trans k2 (fun _ _ h => h)
  refine M.call_i (rclose_ret g2 (hs.keep k12 (fun _ _ _ h => h)) hf hfl hI hJ) ?_; rintro _ w3 ⟨o, out, k, rfl, hc, g3, k3⟩
  refine M.extract_i rfl ?_
  refine M.extract_i rfl ?_
  have := k12.size
  exact ⟨o, out, k, rfl, hc, g3.mono (fun b hb e => by omega), k12.trans k3 (fun _ _ h => h)⟩
end
end Go.Proofs.Ytnkechekdncnlaa
