import Derived.Test.YtnmbgfonlpjicaaLLw
namespace Go.Proofs.Ytnmbgfonlpjicaa
open Go.Mw
set_option linter.unusedVariables false
set_option linter.unusedSimpArgs false
set_option maxRecDepth 100000
attribute [local irreducible] M.val M.unit M.next M.pick M.new M.nilCheck M.load1 M.loadA M.store M.fieldAddr M.indexSl M.indexArr M.slice M.makeSlice M.buildSlice M.len M.lenS M.cap M.append M.extract M.conv M.not M.neg M.bin M.shift M.eqB M.eqNil M.call M.callv M.gd M.share M.cond M.loop M.draw pureW readW Ret
/-! breakwater/breakwaterref06.both: function 78 -/
def sh78 (x0 : Value) (R : Kt) (w : World) : Prop :=
  M.loop [(Value.int IntKind.i64 0)] (fun s1 K1 w => ∀ _ : List Value,
  M.len x0 (fun t6 w =>
  M.bin .lss (s1.getD 0 undef) t6 (fun t7 w =>
  M.cond t7
  (M.indexSl 1 x0 (s1.getD 0 undef) (fun t13 w =>
  M.load1 t13 (fun t14 w =>
  M.call Try.prog 54 #[t14] (fun t15 w =>
  M.call Try.prog 89 #[x0, t15] (fun t16 w =>
  M.cond t16
  (R (Value.bool true) w)
  (M.bin .add (s1.getD 0 undef) (Value.int IntKind.i64 1) (fun t9 w =>
  K1 [t9] w) w)) w) w) w) w)
  (R (Value.bool false) w)) w) w) w
theorem ok78 (x0 : Value) (R : Kt) (w : World) (h : sh78 x0 R w) : Ret Try.prog 78 #[x0] w R :=
  ret_mk <| calls_of_comp mixed (c := Try.f78.body.getD .skip) (args := [x0]) (rs := [(ResultVar.tmp 2)]) (Ann.seq Ann.text (Ann.seq (Ann.seq Ann.text (Ann.block (Ann.loop [3] [2, 4, 5, 6, 7, 8, 9, 10, 11, 12, 13, 14, 15, 16] (Ann.seq (Ann.seq Ann.text (Ann.cond Ann.leaf Ann.leaf)) (Ann.seq (Ann.block (Ann.seq Ann.text (Ann.cond (Ann.seq Ann.text Ann.leaf) Ann.leaf))) Ann.text))))) (Ann.seq Ann.text Ann.leaf)))
    Try.func78 (by kernel_rfl) (by kernel_rfl)
    (Eq.mp (by kernel_rfl) h)
/-! breakwater/breakwaterref06.left: function 79 -/
def sh79 (x0 x1 : Value) (R : Kt) (w : World) : Prop :=
  M.loop [(Value.slice none 0 0), (Value.int IntKind.i64 0)] (fun s1 K1 w => ∀ _ : List Value,
  M.len x0 (fun t10 w =>
  M.bin .lss (s1.getD 1 undef) t10 (fun t11 w =>
  M.cond t11
  (M.share (fun K2 w =>
  M.indexSl 1 x0 (s1.getD 1 undef) (fun t16 w =>
  M.load1 t16 (fun t17 w =>
  M.bin .lss t17 (Value.int IntKind.i64 0) (fun t18 w =>
  M.cond t18
  (K2 [(s1.getD 0 undef)] w)
  (M.indexSl 1 x0 (s1.getD 1 undef) (fun t22 w =>
  M.load1 t22 (fun t23 w =>
  M.call Try.prog 89 #[x1, t23] (fun t24 w =>
  M.cond t24
  (R (.tuple #[(Value.slice none 0 0), (Value.bool true)]) w)
  (M.indexSl 1 x0 (s1.getD 1 undef) (fun t28 w =>
  M.load1 t28 (fun t29 w =>
  M.call Try.prog 54 #[t29] (fun t30 w =>
  M.call Try.prog 89 #[x1, t30] (fun t31 w =>
  M.not t31 (fun t32 w =>
  M.gd t32 true (fun k w => k (s1.getD 0 undef) w) (fun t34 w =>
  M.gd t32 true (fun k w => k x0 w) (fun t35 w =>
  M.gd t32 true (fun k w => k (s1.getD 1 undef) w) (fun t36 w =>
  M.gd t32 true (fun k w => M.indexSl 1 t35 t36 k w) (fun t37 w =>
  M.gd t32 true (fun k w => M.load1 t37 k w) (fun t38 w =>
  M.gd t32 true (fun k w => M.call Try.prog 89 #[t34, t38] k w) (fun t39 w =>
  M.gd t32 true (fun k w => M.not t39 k w) (fun t40 w =>
  M.pick t32 t40 (Value.bool false) (fun t41 w =>
  M.cond t41
  (M.indexSl 1 x0 (s1.getD 1 undef) (fun t45 w =>
  M.load1 t45 (fun t46 w =>
  M.buildSlice 3 1 #[.int .i64 0] 1 [(0, t46)] (fun t47 w =>
  M.append 3 1 8 #[.int .i64 0] (s1.getD 0 undef) t47 (fun t48 w =>
  K2 [t48] w) w) w) w) w)
  (K2 [(s1.getD 0 undef)] w)) w) w) w) w) w) w) w) w) w) w) w) w) w)) w) w) w)) w) w) w) (fun s2 w => ∀ _ : List Value,
  M.bin .add (s1.getD 1 undef) (Value.int IntKind.i64 1) (fun t13 w =>
  K1 [(s2.getD 0 undef), t13] w) w) w)
  (R (.tuple #[(s1.getD 0 undef), (Value.bool false)]) w)) w) w) w
theorem ok79 (x0 x1 : Value) (R : Kt) (w : World) (h : sh79 x0 x1 R w) : Ret Try.prog 79 #[x0, x1] w R :=
  ret_mk <| calls_of_comp mixed (c := Try.f79.body.getD .skip) (args := [x0, x1]) (rs := [(ResultVar.tmp 4), (ResultVar.tmp 5)]) (Ann.seq Ann.text (Ann.seq Ann.text (Ann.seq (Ann.seq Ann.text (Ann.block (Ann.loop [6, 7] [4, 5, 8, 9, 10, 11, 12, 13, 14, 15, 16, 17, 18, 19, 20, 21, 22, 23, 24, 25, 26, 27, 28, 29, 30, 31, 32, 33, 34, 35, 36, 37, 38, 39, 40, 41, 42, 43, 44, 45, 46, 47, 48] (Ann.seq (Ann.seq Ann.text (Ann.cond Ann.leaf Ann.leaf)) (Ann.seq (Ann.jblock [6] [4, 5, 14, 15, 16, 17, 18, 19, 20, 21, 22, 23, 24, 25, 26, 27, 28, 29, 30, 31, 32, 33, 34, 35, 36, 37, 38, 39, 40, 41, 42, 43, 44, 45, 46, 47, 48] (Ann.seq (Ann.seq Ann.text (Ann.cond Ann.leaf Ann.leaf)) (Ann.seq (Ann.seq Ann.text (Ann.cond (Ann.seq Ann.text Ann.leaf) Ann.leaf)) (Ann.seq Ann.text (Ann.cond Ann.text Ann.leaf))))) Ann.text))))) (Ann.seq Ann.text Ann.leaf))))
    Try.func79 (by kernel_rfl) (by kernel_rfl)
    (Eq.mp (by kernel_rfl) h)
/-! breakwater/breakwaterref06.Close: function 55 -/
def sh55 (x0 x1 : Value) (R : Kt) (w : World) : Prop :=
  M.loop [(Value.slice none 0 0), (Value.int IntKind.i64 0)] (fun s1 K1 w => ∀ _ : List Value,
  M.len x1 (fun t14 w =>
  M.bin .lss (s1.getD 1 undef) t14 (fun t15 w =>
  M.cond t15
  (M.share (fun K2 w =>
  M.indexSl 1 x1 (s1.getD 1 undef) (fun t20 w =>
  M.load1 t20 (fun t21 w =>
  M.bin .geq t21 (Value.int IntKind.i64 0) (fun t22 w =>
  M.cond t22
  (M.indexSl 1 x1 (s1.getD 1 undef) (fun t26 w =>
  M.load1 t26 (fun t27 w =>
  M.buildSlice 3 1 #[.int .i64 0] 1 [(0, t27)] (fun t28 w =>
  M.append 3 1 8 #[.int .i64 0] (s1.getD 0 undef) t28 (fun t29 w =>
  K2 [t29] w) w) w) w) w)
  (K2 [(s1.getD 0 undef)] w)) w) w) w) (fun s2 w => ∀ _ : List Value,
  M.bin .add (s1.getD 1 undef) (Value.int IntKind.i64 1) (fun t17 w =>
  K1 [(s2.getD 0 undef), t17] w) w) w)
  (M.loop [(s1.getD 0 undef), (Value.bool true)] (fun s3 K3 w => ∀ _ : List Value,
  M.cond (s3.getD 1 undef)
  (M.call Try.prog 78 #[(s3.getD 0 undef)] (fun t32 w =>
  M.cond t32
  (R (.tuple #[(Value.slice none 0 0), (Value.bool false)]) w)
  (M.loop [(s3.getD 0 undef), (Value.bool false), (Value.int IntKind.i64 0)] (fun s4 K4 w => ∀ _ : List Value,
  M.len x0 (fun t35 w =>
  M.bin .lss (s4.getD 2 undef) t35 (fun t36 w =>
  M.cond t36
  (M.share (fun K5 w =>
  M.indexSl 1 x0 (s4.getD 2 undef) (fun t42 w =>
  M.load1 t42 (fun t43 w =>
  M.call Try.prog 79 #[t43, (s4.getD 0 undef)] (fun t45 w =>
  M.extract 0 t45 (fun t46 w =>
  M.extract 1 t45 (fun t47 w =>
  M.cond t47
  (K5 [(s4.getD 0 undef), (s4.getD 1 undef)] w)
  (M.len t46 (fun t50 w =>
  M.bin .eql t50 (Value.int IntKind.i64 0) (fun t51 w =>
  M.cond t51
  (R (.tuple #[(Value.slice none 0 0), (Value.bool false)]) w)
  (M.len t46 (fun t53 w =>
  M.bin .eql t53 (Value.int IntKind.i64 1) (fun t54 w =>
  M.cond t54
  (M.indexSl 1 t46 (Value.int IntKind.i64 0) (fun t57 w =>
  M.load1 t57 (fun t58 w =>
  M.buildSlice 3 1 #[.int .i64 0] 1 [(0, t58)] (fun t59 w =>
  M.append 3 1 8 #[.int .i64 0] (s4.getD 0 undef) t59 (fun t60 w =>
  K5 [t60, (Value.bool true)] w) w) w) w) w)
  (K5 [(s4.getD 0 undef), (s4.getD 1 undef)] w)) w) w)) w) w)) w) w) w) w) w) (fun s5 w => ∀ _ : List Value,
  M.bin .add (s4.getD 2 undef) (Value.int IntKind.i64 1) (fun t38 w =>
  K4 [(s5.getD 0 undef), (s5.getD 1 undef), t38] w) w) w)
  (K3 [(s4.getD 0 undef), (s4.getD 1 undef)] w)) w) w) w)) w)
  (M.call Try.prog 80 #[(s3.getD 0 undef)] (fun t62 w =>
  R (.tuple #[t62, (Value.bool true)]) w) w)) w)) w) w) w
theorem ok55 (x0 x1 : Value) (R : Kt) (w : World) (h : sh55 x0 x1 R w) : Ret Try.prog 55 #[x0, x1] w R :=
  ret_mk <| calls_of_comp mixed (c := Try.f55.body.getD .skip) (args := [x0, x1]) (rs := [(ResultVar.tmp 4), (ResultVar.tmp 5)]) (Ann.seq Ann.text (Ann.seq Ann.text (Ann.seq (Ann.seq Ann.text (Ann.block (Ann.loop [6, 7] [12, 13, 14, 15, 16, 17, 18, 19, 20, 21, 22, 23, 24, 25, 26, 27, 28, 29] (Ann.seq (Ann.seq Ann.text (Ann.cond Ann.leaf Ann.leaf)) (Ann.seq (Ann.jblock [6] [18, 19, 20, 21, 22, 23, 24, 25, 26, 27, 28, 29] (Ann.seq Ann.text (Ann.cond Ann.text Ann.leaf))) Ann.text))))) (Ann.seq (Ann.seq Ann.text (Ann.block (Ann.loop [6, 8] [4, 5, 9, 10, 11, 30, 31, 32, 33, 34, 35, 36, 37, 38, 39, 40, 41, 42, 43, 44, 45, 46, 47, 48, 49, 50, 51, 52, 53, 54, 55, 56, 57, 58, 59, 60] (Ann.seq (Ann.seq Ann.text (Ann.cond Ann.leaf Ann.leaf)) (Ann.block (Ann.seq Ann.text (Ann.seq (Ann.seq Ann.text (Ann.cond (Ann.seq Ann.text Ann.leaf) Ann.leaf)) (Ann.seq Ann.text (Ann.block (Ann.loop [6, 8, 9] [4, 5, 10, 11, 33, 34, 35, 36, 37, 38, 39, 40, 41, 42, 43, 44, 45, 46, 47, 48, 49, 50, 51, 52, 53, 54, 55, 56, 57, 58, 59, 60] (Ann.seq (Ann.seq Ann.text (Ann.cond Ann.leaf Ann.leaf)) (Ann.seq (Ann.jblock [6, 8] [4, 5, 10, 11, 39, 40, 41, 42, 43, 44, 45, 46, 47, 48, 49, 50, 51, 52, 53, 54, 55, 56, 57, 58, 59, 60] (Ann.seq Ann.text (Ann.seq (Ann.seq Ann.text (Ann.cond Ann.leaf Ann.leaf)) (Ann.seq (Ann.seq Ann.text (Ann.cond (Ann.seq Ann.text Ann.leaf) Ann.leaf)) (Ann.seq Ann.text (Ann.cond (Ann.seq Ann.text Ann.text) Ann.leaf)))))) Ann.text)))))))))))) (Ann.seq Ann.text Ann.leaf)))))
    Try.func55 (by kernel_rfl) (by kernel_rfl)
    (Eq.mp (by kernel_rfl) h)

theorem both_ret {w : World} {D : Nat → Prop} {u : Value} {s : List Int} (h : LV vi w D u s) (hf : Few s.length) (hI : ∀ x ∈ s, I64 x) :
    Ret Try.prog 78 #[u] w (fun r w' => r = .bool (s.any (fun x => decide (notOf x ∈ s))) ∧ Keep w w' No) := by
  have hL := h
  obtain ⟨A, c, rfl, hr, hc⟩ := h
  refine ok78 _ _ _ ?_
  unfold sh78
  refine M.loop_i (σ := Nat) (fun i vals w' => vals = [vi i] ∧ i ≤ s.length ∧ (∀ x ∈ s.take i, notOf x ∉ s) ∧ Keep w w' No) (fun i => s.length - i) 0 ⟨rfl, by omega, by simp, Keep.refl _ _⟩ ?_
  rintro i vals w1 K ⟨rfl, hi, hno, k1⟩ hK _
  simp only [List.getD_cons_zero, List.getD_cons_succ]
  by_cases hlt : i < s.length
  · obtain ⟨x, hx⟩ : ∃ x, s[i]? = some x := ⟨_, List.getElem?_eq_getElem hlt⟩
    have hr := hr.keep k1 (fun _ _ _ h => h)
    have hL := hL.keep k1 (fun _ _ _ h => h)
    (repeat (first|refine ja ?_|refine jb ?_|refine jc ?_|refine jd ?_|refine je ?_|refine jf ?_|refine jg ?_|refine jh ?_|refine ji ?_|refine jj ?_|refine jk ?_|refine jl ?_|refine jm ?_|refine jn ?_|refine jo ?_|refine jp ?_|refine jq ?_|refine jr ?_|refine js ?_|refine jt ?_|refine ju ?_|refine jv ?_|refine jw ?_|refine jx ?_|refine jy ?_|refine jz ?_|refine jA ?_|refine jB ?_|refine jC ?_|refine jD ?_|refine jE ?_|refine jF ?_|refine jG ?_|refine jH ?_|refine jI ?_|refine jJ ?_|refine jK ?_|refine jL ?_|refine jM (by assumption) ?_|refine jN (by assumption) rfl ?_|refine jO (by assumption) ?_|refine jP (by assumption) rfl ?_|refine jQ ?_|refine jR ?_|refine jS ?_|refine jT ?_|refine jU (by assumption) rfl ?_))
    refine M.idxLV_i hr rfl (by omega) (by omega) (x := x) (by simpa using hx) (fun bb oo hA hcc => ?_)
    (repeat (first|refine ja ?_|refine jb ?_|refine jc ?_|refine jd ?_|refine je ?_|refine jf ?_|refine jg ?_|refine jh ?_|refine ji ?_|refine jj ?_|refine jk ?_|refine jl ?_|refine jm ?_|refine jn ?_|refine jo ?_|refine jp ?_|refine jq ?_|refine jr ?_|refine js ?_|refine jt ?_|refine ju ?_|refine jv ?_|refine jw ?_|refine jx ?_|refine jy ?_|refine jz ?_|refine jA ?_|refine jB ?_|refine jC ?_|refine jD ?_|refine jE ?_|refine jF ?_|refine jG ?_|refine jH ?_|refine jI ?_|refine jJ ?_|refine jK ?_|refine jL ?_|refine jM (by assumption) ?_|refine jN (by assumption) rfl ?_|refine jO (by assumption) ?_|refine jP (by assumption) rfl ?_|refine jQ ?_|refine jR ?_|refine jS ?_|refine jT ?_|refine jU (by assumption) rfl ?_))
    refine M.call_i (rnot_ret (hI x (List.mem_of_getElem? hx)) w1) ?_; rintro _ w2 ⟨rfl, k2⟩
    refine M.call_i (has_ret (hL.keep k2 (fun _ _ _ h => h)) hf (notOf x)) ?_; rintro _ w3 ⟨rfl, k3⟩
    have k13 := (k1.trans k2 (fun _ _ h => h)).trans k3 (fun _ _ h => h)
    refine M.condB_i (fun hh => ?_) (fun hh => ?_)
    · refine ⟨?_, k13⟩
      have : s.any (fun x => decide (notOf x ∈ s)) = true := List.any_eq_true.2 ⟨x, List.mem_of_getElem? hx, hh⟩
      rw [this]
    · (repeat (first|refine ja ?_|refine jb ?_|refine jc ?_|refine jd ?_|refine je ?_|refine jf ?_|refine jg ?_|refine jh ?_|refine ji ?_|refine jj ?_|refine jk ?_|refine jl ?_|refine jm ?_|refine jn ?_|refine jo ?_|refine jp ?_|refine jq ?_|refine jr ?_|refine js ?_|refine jt ?_|refine ju ?_|refine jv ?_|refine jw ?_|refine jx ?_|refine jy ?_|refine jz ?_|refine jA ?_|refine jB ?_|refine jC ?_|refine jD ?_|refine jE ?_|refine jF ?_|refine jG ?_|refine jH ?_|refine jI ?_|refine jJ ?_|refine jK ?_|refine jL ?_|refine jM (by assumption) ?_|refine jN (by assumption) rfl ?_|refine jO (by assumption) ?_|refine jP (by assumption) rfl ?_|refine jQ ?_|refine jR ?_|refine jS ?_|refine jT ?_|refine jU (by assumption) rfl ?_))
      refine hK (i + 1) _ _ (by omega) ⟨by simp, by omega, fun y hy => ?_, k13⟩
      rcases (mem_take_succ hx).1 hy with h | rfl
      · exact hno y h
      · simpa using hh
  · (repeat (first|refine ja ?_|refine jb ?_|refine jc ?_|refine jd ?_|refine je ?_|refine jf ?_|refine jg ?_|refine jh ?_|refine ji ?_|refine jj ?_|refine jk ?_|refine jl ?_|refine jm ?_|refine jn ?_|refine jo ?_|refine jp ?_|refine jq ?_|refine jr ?_|refine js ?_|refine jt ?_|refine ju ?_|refine jv ?_|refine jw ?_|refine jx ?_|refine jy ?_|refine jz ?_|refine jA ?_|refine jB ?_|refine jC ?_|refine jD ?_|refine jE ?_|refine jF ?_|refine jG ?_|refine jH ?_|refine jI ?_|refine jJ ?_|refine jK ?_|refine jL ?_|refine jM (by assumption) ?_|refine jN (by assumption) rfl ?_|refine jO (by assumption) ?_|refine jP (by assumption) rfl ?_|refine jQ ?_|refine jR ?_|refine jS ?_|refine jT ?_|refine jU (by assumption) rfl ?_))
    have : i = s.length := by omega
    subst this
    rw [List.take_length] at hno
    refine ⟨?_, k1⟩
    have : s.any (fun x => decide (notOf x ∈ s)) = false := by
      rw [List.any_eq_false]
      intro x hx; simpa using hno x hx
    rw [this]
/-- What 'left' tells. -/
def LeftR (s c o : List Int) (h : Bool) : Prop := (h = true ∧ heldC s c = true ∧ o = []) ∨ (h = false ∧ heldC s c = false ∧ o.Nodup ∧ o.length ≤ c.length ∧ ∀ y, y ∈ o ↔ y ∈ openC s c)
set_option maxHeartbeats 1000000 in
theorem left_ret {w : World} {D D' : Nat → Prop} {u v : Value} {c s : List Int} (h1 : LV vi w D u c) (h2 : LV vi w D' v s) (hf : Few c.length) (hg : Few s.length) (hI : ∀ x ∈ c, I64 x) :
    Ret Try.prog 79 #[u, v] w (fun r w' => ∃ o out h, r = .tuple #[o, .bool h] ∧ LeftR s c out h ∧ GI w' (w.heap.size ≤ ·) o out ∧ Keep w w' No) := by
  obtain ⟨A, cp, rfl, hr, _⟩ := h1
  refine ok79 _ _ _ _ ?_
  unfold sh79
  refine M.loop_i (σ := Nat × List Int) (fun t vals w' => ∃ vo, vals = [vo, vi t.1] ∧ t.1 ≤ c.length ∧ heldC s (c.take t.1) = false ∧ GI w' (w.heap.size ≤ ·) vo t.2 ∧ t.2.Nodup ∧ t.2.length ≤ t.1 ∧ (∀ y, y ∈ t.2 ↔ y ∈ openC s (c.take t.1)) ∧ Keep w w' No) (fun t => c.length - t.1) (0, [])
    ⟨_, rfl, by show 0 ≤ c.length; omega, by simp [heldC], GI.nil _ _, by simp, by simp, by simp [openC], Keep.refl _ _⟩ ?_
  rintro ⟨i, o⟩ vals w1 K ⟨vo, rfl, hi, hh, ho, hn, hl, hm, k1⟩ hK _
  simp only at hi hh ho hn hl hm
  simp only [List.getD_cons_zero, List.getD_cons_succ]
  by_cases hlt : i < c.length
  · obtain ⟨x, hx⟩ : ∃ x, c[i]? = some x := ⟨_, List.getElem?_eq_getElem hlt⟩
    have e1 : c.take (i + 1) = c.take i ++ [x] := by rw [List.take_add_one, hx]; rfl
    have hIx := hI x (List.mem_of_getElem? hx)
    have hr := hr.keep k1 (fun _ _ _ h => h)
    have h2 := h2.keep k1 (fun _ _ _ h => h)
    have q1 := k1.size
    have hxi : c[((i : Nat) : Int).toNat]? = some x := by simpa using hx
    (repeat (first|refine ja ?_|refine jb ?_|refine jc ?_|refine jd ?_|refine je ?_|refine jf ?_|refine jg ?_|refine jh ?_|refine ji ?_|refine jj ?_|refine jk ?_|refine jl ?_|refine jm ?_|refine jn ?_|refine jo ?_|refine jp ?_|refine jq ?_|refine jr ?_|refine js ?_|refine jt ?_|refine ju ?_|refine jv ?_|refine jw ?_|refine jx ?_|refine jy ?_|refine jz ?_|refine jA ?_|refine jB ?_|refine jC ?_|refine jD ?_|refine jE ?_|refine jF ?_|refine jG ?_|refine jH ?_|refine jI ?_|refine jJ ?_|refine jK ?_|refine jL ?_|refine jM (by assumption) ?_|refine jN (by assumption) rfl ?_|refine jO (by assumption) ?_|refine jP (by assumption) rfl ?_|refine jQ ?_|refine jR ?_|refine jS ?_|refine jT ?_|refine jU (by assumption) rfl ?_))
    refine M.share_j (fun vals w' => ∃ vo o', vals = [vo] ∧ heldC s (c.take (i + 1)) = false ∧ GI w' (w.heap.size ≤ ·) vo o' ∧ o'.Nodup ∧ o'.length ≤ i + 1 ∧ (∀ y, y ∈ o' ↔ y ∈ openC s (c.take (i + 1))) ∧ Keep w w' No) ?_ ?_
    · rintro vals w2 ⟨vo, o', rfl, g1, g2, g3, g4, g5, k2⟩ _
      simp only [List.getD_cons_zero, List.getD_cons_succ]
      (repeat (first|refine ja ?_|refine jb ?_|refine jc ?_|refine jd ?_|refine je ?_|refine jf ?_|refine jg ?_|refine jh ?_|refine ji ?_|refine jj ?_|refine jk ?_|refine jl ?_|refine jm ?_|refine jn ?_|refine jo ?_|refine jp ?_|refine jq ?_|refine jr ?_|refine js ?_|refine jt ?_|refine ju ?_|refine jv ?_|refine jw ?_|refine jx ?_|refine jy ?_|refine jz ?_|refine jA ?_|refine jB ?_|refine jC ?_|refine jD ?_|refine jE ?_|refine jF ?_|refine jG ?_|refine jH ?_|refine jI ?_|refine jJ ?_|refine jK ?_|refine jL ?_|refine jM (by assumption) ?_|refine jN (by assumption) rfl ?_|refine jO (by assumption) ?_|refine jP (by assumption) rfl ?_|refine jQ ?_|refine jR ?_|refine jS ?_|refine jT ?_|refine jU (by assumption) rfl ?_))
      exact hK (i + 1, o') _ _ (by show c.length - (i + 1) < c.length - i; omega) ⟨vo, by simp, by show i + 1 ≤ c.length; omega, g1, g2, g3, g4, g5, k2⟩
    · intro K2 hK2
      have skip : ∀ w2, Keep w w2 No → GI w2 (w.heap.size ≤ ·) vo o → (x < 0 ∨ (x ∉ s ∧ (notOf x ∈ s ∨ x ∈ o))) → K2 [vo] w2 := fun w2 k2 ho2 hsk => by
        have g1 : heldC s (c.take (i + 1)) = false := by
          rw [e1, heldC_snoc, hh]
          rcases hsk with h | h
          · simp; intro h2; omega
          · simp [h.1]
        refine hK2 _ _ ⟨vo, o, rfl, g1, ho2, hn, by omega, fun y => ?_, k2⟩
        rw [e1, openC_snoc, List.mem_append, hm]
        constructor
        · exact .inl
        · rintro (h | h)
          · exact h
          · split at h
            · rename_i hx3
              have : y = x := by simpa using h
              subst this
              rcases hsk with h4 | ⟨h4, h5 | h5⟩
              · omega
              · exact absurd h5 hx3.2.2
              · exact (hm _).1 h5
            · simp at h
      refine M.idxLV_i hr rfl (by omega) (by omega) hxi (fun bb oo hA hcc => ?_)
      (repeat (first|refine ja ?_|refine jb ?_|refine jc ?_|refine jd ?_|refine je ?_|refine jf ?_|refine jg ?_|refine jh ?_|refine ji ?_|refine jj ?_|refine jk ?_|refine jl ?_|refine jm ?_|refine jn ?_|refine jo ?_|refine jp ?_|refine jq ?_|refine jr ?_|refine js ?_|refine jt ?_|refine ju ?_|refine jv ?_|refine jw ?_|refine jx ?_|refine jy ?_|refine jz ?_|refine jA ?_|refine jB ?_|refine jC ?_|refine jD ?_|refine jE ?_|refine jF ?_|refine jG ?_|refine jH ?_|refine jI ?_|refine jJ ?_|refine jK ?_|refine jL ?_|refine jM (by assumption) ?_|refine jN (by assumption) rfl ?_|refine jO (by assumption) ?_|refine jP (by assumption) rfl ?_|refine jQ ?_|refine jR ?_|refine jS ?_|refine jT ?_|refine jU (by assumption) rfl ?_))
      by_cases h0 : x < 0
      · (repeat (first|refine ja ?_|refine jb ?_|refine jc ?_|refine jd ?_|refine je ?_|refine jf ?_|refine jg ?_|refine jh ?_|refine ji ?_|refine jj ?_|refine jk ?_|refine jl ?_|refine jm ?_|refine jn ?_|refine jo ?_|refine jp ?_|refine jq ?_|refine jr ?_|refine js ?_|refine jt ?_|refine ju ?_|refine jv ?_|refine jw ?_|refine jx ?_|refine jy ?_|refine jz ?_|refine jA ?_|refine jB ?_|refine jC ?_|refine jD ?_|refine jE ?_|refine jF ?_|refine jG ?_|refine jH ?_|refine jI ?_|refine jJ ?_|refine jK ?_|refine jL ?_|refine jM (by assumption) ?_|refine jN (by assumption) rfl ?_|refine jO (by assumption) ?_|refine jP (by assumption) rfl ?_|refine jQ ?_|refine jR ?_|refine jS ?_|refine jT ?_|refine jU (by assumption) rfl ?_))
        exact skip _ k1 ho (.inl h0)
      (repeat (first|refine ja ?_|refine jb ?_|refine jc ?_|refine jd ?_|refine je ?_|refine jf ?_|refine jg ?_|refine jh ?_|refine ji ?_|refine jj ?_|refine jk ?_|refine jl ?_|refine jm ?_|refine jn ?_|refine jo ?_|refine jp ?_|refine jq ?_|refine jr ?_|refine js ?_|refine jt ?_|refine ju ?_|refine jv ?_|refine jw ?_|refine jx ?_|refine jy ?_|refine jz ?_|refine jA ?_|refine jB ?_|refine jC ?_|refine jD ?_|refine jE ?_|refine jF ?_|refine jG ?_|refine jH ?_|refine jI ?_|refine jJ ?_|refine jK ?_|refine jL ?_|refine jM (by assumption) ?_|refine jN (by assumption) rfl ?_|refine jO (by assumption) ?_|refine jP (by assumption) rfl ?_|refine jQ ?_|refine jR ?_|refine jS ?_|refine jT ?_|refine jU (by assumption) rfl ?_))
      refine M.idxLV_i hr rfl (by omega) (by omega) hxi (fun bb oo hA hcc => ?_)
      (repeat (first|refine ja ?_|refine jb ?_|refine jc ?_|refine jd ?_|refine je ?_|refine jf ?_|refine jg ?_|refine jh ?_|refine ji ?_|refine jj ?_|refine jk ?_|refine jl ?_|refine jm ?_|refine jn ?_|refine jo ?_|refine jp ?_|refine jq ?_|refine jr ?_|refine js ?_|refine jt ?_|refine ju ?_|refine jv ?_|refine jw ?_|refine jx ?_|refine jy ?_|refine jz ?_|refine jA ?_|refine jB ?_|refine jC ?_|refine jD ?_|refine jE ?_|refine jF ?_|refine jG ?_|refine jH ?_|refine jI ?_|refine jJ ?_|refine jK ?_|refine jL ?_|refine jM (by assumption) ?_|refine jN (by assumption) rfl ?_|refine jO (by assumption) ?_|refine jP (by assumption) rfl ?_|refine jQ ?_|refine jR ?_|refine jS ?_|refine jT ?_|refine jU (by assumption) rfl ?_))
      refine M.call_i (has_ret h2 hg x) ?_; rintro _ w2 ⟨rfl, k2⟩
      have hr := hr.keep k2 (fun _ _ _ h => h)
      have h2 := h2.keep k2 (fun _ _ _ h => h)
      have ho := ho.keep k2 (fun _ _ _ h => h)
      have k12 := k1.trans k2 (fun _ _ h => h)
      by_cases hxs : x ∈ s
      · simp only [hxs, decide_true]
        (repeat (first|refine ja ?_|refine jb ?_|refine jc ?_|refine jd ?_|refine je ?_|refine jf ?_|refine jg ?_|refine jh ?_|refine ji ?_|refine jj ?_|refine jk ?_|refine jl ?_|refine jm ?_|refine jn ?_|refine jo ?_|refine jp ?_|refine jq ?_|refine jr ?_|refine js ?_|refine jt ?_|refine ju ?_|refine jv ?_|refine jw ?_|refine jx ?_|refine jy ?_|refine jz ?_|refine jA ?_|refine jB ?_|refine jC ?_|refine jD ?_|refine jE ?_|refine jF ?_|refine jG ?_|refine jH ?_|refine jI ?_|refine jJ ?_|refine jK ?_|refine jL ?_|refine jM (by assumption) ?_|refine jN (by assumption) rfl ?_|refine jO (by assumption) ?_|refine jP (by assumption) rfl ?_|refine jQ ?_|refine jR ?_|refine jS ?_|refine jT ?_|refine jU (by assumption) rfl ?_))
        exact ⟨_, [], true, rfl, .inl ⟨rfl, heldC_iff.2 ⟨x, List.mem_of_getElem? hx, by omega, hxs⟩, rfl⟩, GI.nil _ _, k12⟩
      simp only [hxs, decide_false]
      (repeat (first|refine ja ?_|refine jb ?_|refine jc ?_|refine jd ?_|refine je ?_|refine jf ?_|refine jg ?_|refine jh ?_|refine ji ?_|refine jj ?_|refine jk ?_|refine jl ?_|refine jm ?_|refine jn ?_|refine jo ?_|refine jp ?_|refine jq ?_|refine jr ?_|refine js ?_|refine jt ?_|refine ju ?_|refine jv ?_|refine jw ?_|refine jx ?_|refine jy ?_|refine jz ?_|refine jA ?_|refine jB ?_|refine jC ?_|refine jD ?_|refine jE ?_|refine jF ?_|refine jG ?_|refine jH ?_|refine jI ?_|refine jJ ?_|refine jK ?_|refine jL ?_|refine jM (by assumption) ?_|refine jN (by assumption) rfl ?_|refine jO (by assumption) ?_|refine jP (by assumption) rfl ?_|refine jQ ?_|refine jR ?_|refine jS ?_|refine jT ?_|refine jU (by assumption) rfl ?_))
      refine M.idxLV_i hr rfl (by omega) (by omega) hxi (fun bb oo hA hcc => ?_)
      (repeat (first|refine ja ?_|refine jb ?_|refine jc ?_|refine jd ?_|refine je ?_|refine jf ?_|refine jg ?_|refine jh ?_|refine ji ?_|refine jj ?_|refine jk ?_|refine jl ?_|refine jm ?_|refine jn ?_|refine jo ?_|refine jp ?_|refine jq ?_|refine jr ?_|refine js ?_|refine jt ?_|refine ju ?_|refine jv ?_|refine jw ?_|refine jx ?_|refine jy ?_|refine jz ?_|refine jA ?_|refine jB ?_|refine jC ?_|refine jD ?_|refine jE ?_|refine jF ?_|refine jG ?_|refine jH ?_|refine jI ?_|refine jJ ?_|refine jK ?_|refine jL ?_|refine jM (by assumption) ?_|refine jN (by assumption) rfl ?_|refine jO (by assumption) ?_|refine jP (by assumption) rfl ?_|refine jQ ?_|refine jR ?_|refine jS ?_|refine jT ?_|refine jU (by assumption) rfl ?_))
      refine M.call_i (rnot_ret hIx w2) ?_; rintro _ w3 ⟨rfl, k3⟩
      have h2 := h2.keep k3 (fun _ _ _ h => h)
      refine M.call_i (has_ret h2 hg (notOf x)) ?_; rintro _ w4 ⟨rfl, k4⟩
      have hr := (hr.keep k3 (fun _ _ _ h => h)).keep k4 (fun _ _ _ h => h)
      have ho := (ho.keep k3 (fun _ _ _ h => h)).keep k4 (fun _ _ _ h => h)
      have k14 := (k12.trans k3 (fun _ _ h => h)).trans k4 (fun _ _ h => h)
      refine M.not_i ?_
      by_cases hnx : notOf x ∈ s
      · simp only [hnx, decide_true, Bool.not_true]
        (repeat (first|refine ja ?_|refine jb ?_|refine jc ?_|refine jd ?_|refine je ?_|refine jf ?_|refine jg ?_|refine jh ?_|refine ji ?_|refine jj ?_|refine jk ?_|refine jl ?_|refine jm ?_|refine jn ?_|refine jo ?_|refine jp ?_|refine jq ?_|refine jr ?_|refine js ?_|refine jt ?_|refine ju ?_|refine jv ?_|refine jw ?_|refine jx ?_|refine jy ?_|refine jz ?_|refine jA ?_|refine jB ?_|refine jC ?_|refine jD ?_|refine jE ?_|refine jF ?_|refine jG ?_|refine jH ?_|refine jI ?_|refine jJ ?_|refine jK ?_|refine jL ?_|refine jM (by assumption) ?_|refine jN (by assumption) rfl ?_|refine jO (by assumption) ?_|refine jP (by assumption) rfl ?_|refine jQ ?_|refine jR ?_|refine jS ?_|refine jT ?_|refine jU (by assumption) rfl ?_))
        exact skip _ k14 ho (.inr ⟨hxs, .inl hnx⟩)
      simp only [hnx, decide_false, Bool.not_false]
      (repeat (first|refine ja ?_|refine jb ?_|refine jc ?_|refine jd ?_|refine je ?_|refine jf ?_|refine jg ?_|refine jh ?_|refine ji ?_|refine jj ?_|refine jk ?_|refine jl ?_|refine jm ?_|refine jn ?_|refine jo ?_|refine jp ?_|refine jq ?_|refine jr ?_|refine js ?_|refine jt ?_|refine ju ?_|refine jv ?_|refine jw ?_|refine jx ?_|refine jy ?_|refine jz ?_|refine jA ?_|refine jB ?_|refine jC ?_|refine jD ?_|refine jE ?_|refine jF ?_|refine jG ?_|refine jH ?_|refine jI ?_|refine jJ ?_|refine jK ?_|refine jL ?_|refine jM (by assumption) ?_|refine jN (by assumption) rfl ?_|refine jO (by assumption) ?_|refine jP (by assumption) rfl ?_|refine jQ ?_|refine jR ?_|refine jS ?_|refine jT ?_|refine jU (by assumption) rfl ?_))
      refine M.idxLV_i hr rfl (by omega) (by omega) hxi (fun bb oo hA hcc => ?_)
      (repeat (first|refine ja ?_|refine jb ?_|refine jc ?_|refine jd ?_|refine je ?_|refine jf ?_|refine jg ?_|refine jh ?_|refine ji ?_|refine jj ?_|refine jk ?_|refine jl ?_|refine jm ?_|refine jn ?_|refine jo ?_|refine jp ?_|refine jq ?_|refine jr ?_|refine js ?_|refine jt ?_|refine ju ?_|refine jv ?_|refine jw ?_|refine jx ?_|refine jy ?_|refine jz ?_|refine jA ?_|refine jB ?_|refine jC ?_|refine jD ?_|refine jE ?_|refine jF ?_|refine jG ?_|refine jH ?_|refine jI ?_|refine jJ ?_|refine jK ?_|refine jL ?_|refine jM (by assumption) ?_|refine jN (by assumption) rfl ?_|refine jO (by assumption) ?_|refine jP (by assumption) rfl ?_|refine jQ ?_|refine jR ?_|refine jS ?_|refine jT ?_|refine jU (by assumption) rfl ?_))
      refine M.call_i (has_ret (GI.lv ho) (by omega) x) ?_; rintro _ w5 ⟨rfl, k5⟩
      have hr := hr.keep k5 (fun _ _ _ h => h)
      have ho := ho.keep k5 (fun _ _ _ h => h)
      have k15 := k14.trans k5 (fun _ _ h => h)
      by_cases hxo : x ∈ o
      · simp only [hxo, decide_true]
        (repeat (first|refine ja ?_|refine jb ?_|refine jc ?_|refine jd ?_|refine je ?_|refine jf ?_|refine jg ?_|refine jh ?_|refine ji ?_|refine jj ?_|refine jk ?_|refine jl ?_|refine jm ?_|refine jn ?_|refine jo ?_|refine jp ?_|refine jq ?_|refine jr ?_|refine js ?_|refine jt ?_|refine ju ?_|refine jv ?_|refine jw ?_|refine jx ?_|refine jy ?_|refine jz ?_|refine jA ?_|refine jB ?_|refine jC ?_|refine jD ?_|refine jE ?_|refine jF ?_|refine jG ?_|refine jH ?_|refine jI ?_|refine jJ ?_|refine jK ?_|refine jL ?_|refine jM (by assumption) ?_|refine jN (by assumption) rfl ?_|refine jO (by assumption) ?_|refine jP (by assumption) rfl ?_|refine jQ ?_|refine jR ?_|refine jS ?_|refine jT ?_|refine jU (by assumption) rfl ?_))
        exact skip _ k15 ho (.inr ⟨hxs, .inr hxo⟩)
      simp only [hxo, decide_false]
      (repeat (first|refine ja ?_|refine jb ?_|refine jc ?_|refine jd ?_|refine je ?_|refine jf ?_|refine jg ?_|refine jh ?_|refine ji ?_|refine jj ?_|refine jk ?_|refine jl ?_|refine jm ?_|refine jn ?_|refine jo ?_|refine jp ?_|refine jq ?_|refine jr ?_|refine js ?_|refine jt ?_|refine ju ?_|refine jv ?_|refine jw ?_|refine jx ?_|refine jy ?_|refine jz ?_|refine jA ?_|refine jB ?_|refine jC ?_|refine jD ?_|refine jE ?_|refine jF ?_|refine jG ?_|refine jH ?_|refine jI ?_|refine jJ ?_|refine jK ?_|refine jL ?_|refine jM (by assumption) ?_|refine jN (by assumption) rfl ?_|refine jO (by assumption) ?_|refine jP (by assumption) rfl ?_|refine jQ ?_|refine jR ?_|refine jS ?_|refine jT ?_|refine jU (by assumption) rfl ?_))
      refine M.idxLV_i hr rfl (by omega) (by omega) hxi (fun bb oo hA hcc => ?_)
      (repeat (first|refine ja ?_|refine jb ?_|refine jc ?_|refine jd ?_|refine je ?_|refine jf ?_|refine jg ?_|refine jh ?_|refine ji ?_|refine jj ?_|refine jk ?_|refine jl ?_|refine jm ?_|refine jn ?_|refine jo ?_|refine jp ?_|refine jq ?_|refine jr ?_|refine js ?_|refine jt ?_|refine ju ?_|refine jv ?_|refine jw ?_|refine jx ?_|refine jy ?_|refine jz ?_|refine jA ?_|refine jB ?_|refine jC ?_|refine jD ?_|refine jE ?_|refine jF ?_|refine jG ?_|refine jH ?_|refine jI ?_|refine jJ ?_|refine jK ?_|refine jL ?_|refine jM (by assumption) ?_|refine jN (by assumption) rfl ?_|refine jO (by assumption) ?_|refine jP (by assumption) rfl ?_|refine jQ ?_|refine jR ?_|refine jS ?_|refine jT ?_|refine jU (by assumption) rfl ?_))
      refine M.buildSlice_i [vi x] (by kernel_rfl) (fun w6 b6 k6 s6 => ?_)
      have ho := ho.keep k6 (fun _ _ _ h => h)
      refine M.append1_i ho (Row.of_blk' (D := fun _ => True) b6 trivial) rfl (by omega) (fun v7 w7 g7 k7 => ?_)
      have q5 := k15.size; have q6 := k6.size
      refine hK2 _ _ ⟨v7, o ++ [x], rfl, ?_, g7.mono (fun b hb h => by omega), ?_, by simp; omega, fun y => ?_, (k15.trans k6 (fun _ _ h => h)).trans k7 (fun b hb h => by omega)⟩
      · rw [e1, heldC_snoc, hh]; simp [hxs]
      · refine List.nodup_append.2 ⟨hn, by simp, fun a ha b hb => ?_⟩
        simp at hb; subst hb
        intro e; exact hxo (e ▸ ha)
      · rw [e1, openC_snoc, if_pos ⟨by omega, hxs, hnx⟩, List.mem_append, List.mem_append, hm]
  · (repeat (first|refine ja ?_|refine jb ?_|refine jc ?_|refine jd ?_|refine je ?_|refine jf ?_|refine jg ?_|refine jh ?_|refine ji ?_|refine jj ?_|refine jk ?_|refine jl ?_|refine jm ?_|refine jn ?_|refine jo ?_|refine jp ?_|refine jq ?_|refine jr ?_|refine js ?_|refine jt ?_|refine ju ?_|refine jv ?_|refine jw ?_|refine jx ?_|refine jy ?_|refine jz ?_|refine jA ?_|refine jB ?_|refine jC ?_|refine jD ?_|refine jE ?_|refine jF ?_|refine jG ?_|refine jH ?_|refine jI ?_|refine jJ ?_|refine jK ?_|refine jL ?_|refine jM (by assumption) ?_|refine jN (by assumption) rfl ?_|refine jO (by assumption) ?_|refine jP (by assumption) rfl ?_|refine jQ ?_|refine jR ?_|refine jS ?_|refine jT ?_|refine jU (by assumption) rfl ?_))
    have : i = c.length := by omega
    subst this
    rw [List.take_length] at hh hm
    exact ⟨_, o, false, rfl, .inr ⟨rfl, hh, hn, hl, hm⟩, ho, k1⟩
end Go.Proofs.Ytnmbgfonlpjicaa
