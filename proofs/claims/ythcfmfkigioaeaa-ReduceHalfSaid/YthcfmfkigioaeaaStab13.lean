import Derived.Test.YthcfmfkigioaeaaStab13p
namespace Go.Proofs.Ythcfmfkigioaeaa
open Go.Mw
set_option linter.unusedVariables false
set_option linter.unusedSimpArgs false
set_option maxRecDepth 100000
attribute [local irreducible] M.val M.unit M.next M.pick M.new M.nilCheck M.load1 M.loadA M.store M.fieldAddr M.indexSl M.indexArr M.slice M.makeSlice M.buildSlice M.len M.lenS M.cap M.append M.extract M.conv M.not M.neg M.bin M.shift M.eqB M.eqNil M.call M.callv M.gd M.share M.cond M.loop M.draw pureW readW Ret
/-! slices.swapRangeCmpFunc[int]: function 22 -/
def sh22 (x0 x1 x2 x3 x4 : Value) (R : Kt) (w : World) : Prop :=
  M.loop [(Value.int IntKind.i64 0)] (fun s1 K1 w => ∀ _ : List Value,
  M.bin .lss (s1.getD 0 undef) x3 (fun t13 w =>
  M.cond t13
  (M.draw (fun w =>
  M.bin .add x1 (s1.getD 0 undef) (fun t19 w =>
  M.bin .add x2 (s1.getD 0 undef) (fun t23 w =>
  M.bin .add x2 (s1.getD 0 undef) (fun t27 w =>
  M.indexSl 1 x0 t27 (fun t28 w =>
  M.load1 t28 (fun t29 w =>
  M.bin .add x1 (s1.getD 0 undef) (fun t33 w =>
  M.indexSl 1 x0 t33 (fun t34 w =>
  M.load1 t34 (fun t35 w =>
  M.indexSl 1 x0 t19 (fun t36 w =>
  M.store 1 t36 t29 (fun _ w =>
  M.indexSl 1 x0 t23 (fun t37 w =>
  M.store 1 t37 t35 (fun _ w =>
  M.bin .add (s1.getD 0 undef) (Value.int IntKind.i64 1) (fun t15 w =>
  K1 [t15] w) w) w) w) w) w) w) w) w) w) w) w) w) w) w)
  (R (.tuple #[]) w)) w) w
theorem ok22 (x0 x1 x2 x3 x4 : Value) (R : Kt) (w : World) (h : sh22 x0 x1 x2 x3 x4 R w) : Ret Try.prog 22 #[x0, x1, x2, x3, x4] w R :=
  ret_mk <| calls_of_comp mixed (c := Try.f22.body.getD .skip) (args := [x0, x1, x2, x3, x4]) (rs := []) (Ann.seq Ann.text (Ann.block (Ann.loop [10] [11, 12, 13, 14, 15, 16, 17, 18, 19, 20, 21, 22, 23, 24, 25, 26, 27, 28, 29, 30, 31, 32, 33, 34, 35, 36, 37] (Ann.seq (Ann.seq Ann.text (Ann.cond Ann.leaf Ann.leaf)) (Ann.seq (Ann.block (Ann.draw (Sch.take 0 (Sch.take 1 (Sch.take 2 (Sch.take 3 (Sch.take 4 (Sch.take 5 (Sch.take 6 (Sch.take 7 (Sch.take 8 (Sch.take 9 (Sch.take 10 (Sch.take 11 (Sch.take 12 (Sch.take 13 (Sch.take 14 (Sch.take 15 (Sch.take 16 (Sch.take 17 (Sch.take 18 (Sch.take 19 (Sch.take 20 (Sch.one 21 (Sch.take 22 (Sch.one 23 Sch.done)))))))))))))))))))))))))) Ann.text)))))
    Try.func22 (by kernel_rfl) (by kernel_rfl)
    (Eq.mp (by kernel_rfl) h)
/-! slices.rotateCmpFunc[int]: function 21 -/
def sh21 (x0 x1 x2 x3 x4 : Value) (R : Kt) (w : World) : Prop :=
  M.bin .sub x2 x1 (fun t14 w =>
  M.bin .sub x3 x2 (fun t17 w =>
  M.loop [t14, t17] (fun s1 K1 w => ∀ _ : List Value,
  M.bin .neq (s1.getD 0 undef) (s1.getD 1 undef) (fun t20 w =>
  M.cond t20
  (M.share (fun K2 w =>
  M.bin .gtr (s1.getD 0 undef) (s1.getD 1 undef) (fun t23 w =>
  M.cond t23
  (M.bin .sub x2 (s1.getD 0 undef) (fun t27 w =>
  M.call Try.prog 22 #[x0, t27, x2, (s1.getD 1 undef), x4] (fun t31 w =>
  M.bin .sub (s1.getD 0 undef) (s1.getD 1 undef) (fun t34 w =>
  K2 [t34, (s1.getD 1 undef)] w) w) w) w)
  (M.bin .sub x2 (s1.getD 0 undef) (fun t38 w =>
  M.bin .add x2 (s1.getD 1 undef) (fun t41 w =>
  M.bin .sub t41 (s1.getD 0 undef) (fun t43 w =>
  M.call Try.prog 22 #[x0, t38, t43, (s1.getD 0 undef), x4] (fun t46 w =>
  M.bin .sub (s1.getD 1 undef) (s1.getD 0 undef) (fun t49 w =>
  K2 [(s1.getD 0 undef), t49] w) w) w) w) w) w)) w) (fun s2 w => ∀ _ : List Value,
  K1 [(s2.getD 0 undef), (s2.getD 1 undef)] w) w)
  (M.bin .sub x2 (s1.getD 0 undef) (fun t53 w =>
  M.call Try.prog 22 #[x0, t53, x2, (s1.getD 0 undef), x4] (fun t57 w =>
  R (.tuple #[]) w) w) w)) w) w) w) w
theorem ok21 (x0 x1 x2 x3 x4 : Value) (R : Kt) (w : World) (h : sh21 x0 x1 x2 x3 x4 R w) : Ret Try.prog 21 #[x0, x1, x2, x3, x4] w R :=
  ret_mk <| calls_of_comp mixed (c := Try.f21.body.getD .skip) (args := [x0, x1, x2, x3, x4]) (rs := []) (Ann.seq Ann.text (Ann.seq Ann.text (Ann.seq (Ann.block (Ann.loop [10, 11] [18, 19, 20, 21, 22, 23, 24, 25, 26, 27, 28, 29, 30, 31, 32, 33, 34, 35, 36, 37, 38, 39, 40, 41, 42, 43, 44, 45, 46, 47, 48, 49] (Ann.seq (Ann.seq Ann.text (Ann.cond Ann.leaf Ann.leaf)) (Ann.jblock [10, 11] [21, 22, 23, 24, 25, 26, 27, 28, 29, 30, 31, 32, 33, 34, 35, 36, 37, 38, 39, 40, 41, 42, 43, 44, 45, 46, 47, 48, 49] (Ann.seq Ann.text (Ann.cond (Ann.seq Ann.text Ann.text) (Ann.seq Ann.text Ann.text))))))) Ann.text)))
    Try.func21 (by kernel_rfl) (by kernel_rfl)
    (Eq.mp (by kernel_rfl) h)
/-! slices.insertionSortCmpFunc[int]: function 19 -/
def sh19 (x0 x1 x2 x3 : Value) (R : Kt) (w : World) : Prop :=
  M.bin .add x1 (Value.int IntKind.i64 1) (fun t11 w =>
  M.loop [t11] (fun s1 K1 w => ∀ _ : List Value,
  M.bin .lss (s1.getD 0 undef) x2 (fun t14 w =>
  M.cond t14
  (M.loop [(s1.getD 0 undef)] (fun s2 K2 w => ∀ _ : List Value,
  M.draw (fun w =>
  M.bin .gtr (s2.getD 0 undef) x1 (fun t20 w =>
  M.gd t20 true (fun k w => k x3 w) (fun t22 w =>
  M.gd t20 true (fun k w => k x0 w) (fun t23 w =>
  M.gd t20 true (fun k w => k (s2.getD 0 undef) w) (fun t24 w =>
  M.gd t20 true (fun k w => M.indexSl 1 t23 t24 k w) (fun t25 w =>
  M.gd t20 true (fun k w => M.load1 t25 k w) (fun t26 w =>
  M.gd t20 true (fun k w => k x0 w) (fun t27 w =>
  M.gd t20 true (fun k w => k (s2.getD 0 undef) w) (fun t28 w =>
  M.gd t20 true (fun k w => M.bin .sub t28 (Value.int IntKind.i64 1) k w) (fun t29 w =>
  M.gd t20 true (fun k w => M.indexSl 1 t27 t29 k w) (fun t30 w =>
  M.gd t20 true (fun k w => M.load1 t30 k w) (fun t31 w =>
  M.gd t20 true (fun k w => M.callv Try.prog t22 #[t26, t31] k w) (fun t32 w =>
  M.gd t20 true (fun k w => M.bin .lss t32 (Value.int IntKind.i64 0) k w) (fun t33 w =>
  M.pick t20 t33 (Value.bool false) (fun t34 w =>
  M.cond t34
  (M.draw (fun w =>
  M.bin .sub (s2.getD 0 undef) (Value.int IntKind.i64 1) (fun t41 w =>
  M.bin .sub (s2.getD 0 undef) (Value.int IntKind.i64 1) (fun t44 w =>
  M.indexSl 1 x0 t44 (fun t45 w =>
  M.load1 t45 (fun t46 w =>
  M.indexSl 1 x0 (s2.getD 0 undef) (fun t49 w =>
  M.load1 t49 (fun t50 w =>
  M.indexSl 1 x0 (s2.getD 0 undef) (fun t51 w =>
  M.store 1 t51 t46 (fun _ w =>
  M.indexSl 1 x0 t41 (fun t52 w =>
  M.store 1 t52 t50 (fun _ w =>
  M.bin .sub (s2.getD 0 undef) (Value.int IntKind.i64 1) (fun t36 w =>
  K2 [t36] w) w) w) w) w) w) w) w) w) w) w) w) w)
  (M.bin .add (s1.getD 0 undef) (Value.int IntKind.i64 1) (fun t16 w =>
  K1 [t16] w) w)) w) w) w) w) w) w) w) w) w) w) w) w) w) w) w) w)
  (R (.tuple #[]) w)) w) w) w
theorem ok19 (x0 x1 x2 x3 : Value) (R : Kt) (w : World) (h : sh19 x0 x1 x2 x3 R w) : Ret Try.prog 19 #[x0, x1, x2, x3] w R :=
  ret_mk <| calls_of_comp mixed (c := Try.f19.body.getD .skip) (args := [x0, x1, x2, x3]) (rs := []) (Ann.seq Ann.text (Ann.block (Ann.loop [8] [9, 12, 13, 14, 15, 16, 17, 18, 19, 20, 21, 22, 23, 24, 25, 26, 27, 28, 29, 30, 31, 32, 33, 34, 35, 36, 37, 38, 39, 40, 41, 42, 43, 44, 45, 46, 47, 48, 49, 50, 51, 52] (Ann.seq (Ann.seq Ann.text (Ann.cond Ann.leaf Ann.leaf)) (Ann.seq (Ann.block (Ann.seq Ann.text (Ann.block (Ann.loop [9] [18, 19, 20, 21, 22, 23, 24, 25, 26, 27, 28, 29, 30, 31, 32, 33, 34, 35, 36, 37, 38, 39, 40, 41, 42, 43, 44, 45, 46, 47, 48, 49, 50, 51, 52] (Ann.seq (Ann.seq (Ann.draw (Sch.take 0 (Sch.take 1 (Sch.take 2 (Sch.take 3 (Sch.take 4 (Sch.take 5 (Sch.take 6 (Sch.take 7 (Sch.take 8 (Sch.take 9 (Sch.take 10 (Sch.take 11 (Sch.take 12 (Sch.take 13 (Sch.one 14 (Sch.take 15 (Sch.take 16 Sch.done)))))))))))))))))) (Ann.cond Ann.leaf Ann.leaf)) (Ann.seq (Ann.block (Ann.draw (Sch.take 0 (Sch.take 1 (Sch.take 2 (Sch.take 3 (Sch.take 4 (Sch.take 5 (Sch.take 6 (Sch.take 7 (Sch.take 8 (Sch.take 9 (Sch.take 10 (Sch.take 11 (Sch.take 12 (Sch.take 13 (Sch.take 14 (Sch.one 15 (Sch.take 16 (Sch.one 17 Sch.done)))))))))))))))))))) Ann.text)))))) Ann.text)))))
    Try.func19 (by kernel_rfl) (by kernel_rfl)
    (Eq.mp (by kernel_rfl) h)

abbrev fn (xs : List Int) : Nat → Int := fun j => xs.getD j 0
theorem fn_set {xs : List Int} {i : Nat} (x : Int) (hi : i < xs.length) : fn (xs.set i x) = fun j => if j = i then x else fn xs j := by
  funext j
  simp only [fn, List.getD_eq_getElem?_getD, List.getElem?_set]
  by_cases h : i = j
  · subst h; simp [hi]
  · rw [if_neg h, if_neg (fun e => h e.symm)]
theorem fn_at {xs : List Int} {i : Nat} (x : Int) (j : Nat) (hi : i < xs.length) : fn (xs.set i x) j = if j = i then x else fn xs j := by rw [fn_set x hi]
theorem fn_get {xs : List Int} {i : Nat} (hi : i < xs.length) : xs[i]? = some (fn xs i) := by
  simp [fn, List.getElem?_eq_getElem hi]
theorem M.getI_i {k : Kt} {w : World} {L : Nat → Prop} {v : Value} {xs : List Int} {d : IntKind} {i : Int} (h : GI w L v xs) (h0 : 0 ≤ i) (h1 : i < xs.length)
    (hk : ∀ a, w.cell? a = some (vi (fn xs i.toNat)) → k (.pointer (some a)) w) : M.indexSl 1 v (.int d i) k w := by
  obtain ⟨A, c, rfl, hr, _⟩ := GC.row2 h (by omega)
  exact M.idxLV_i hr rfl h0 h1 (x := fn xs i.toNat) (fn_get (by omega)) (fun b o hA hc => hk _ hc)
/-- What a function that compares answers. -/
def CmpF (g : Value) (I : World → Prop) (lt : Int → Int → Bool) (Okk : Int → Prop) : Prop :=
  ∀ (x y : Int) (w : World) (k : Kt), Okk x → Okk y → I w → (∀ z w', decide (z < 0) = lt x y → Keep w w' No → k (vi z) w') → M.callv Try.prog g #[vi x, vi y] k w
section
variable {L : Nat → Prop} {v : Value}
theorem swapRange_ret {w : World} {xs : List Int} (h : GI w L v xs) (hf : Few xs.length) {a b n : Nat} (hab : a + n ≤ b) (hb : b + n ≤ xs.length) (g : Value) :
    Ret Try.prog 22 #[v, vi a, vi b, vi n, g] w (fun r w' => r = .tuple #[] ∧ ∃ ys, GI w' L v ys ∧ ys.length = xs.length ∧ fn ys = swp (fn xs) a b n ∧ Keep w w' L) := by
  refine ok22 _ _ _ _ _ _ _ ?_
  unfold sh22
  refine M.loop_i (σ := Nat) (fun i vals w' => ∃ ys, vals = [vi i] ∧ i ≤ n ∧ GI w' L v ys ∧ ys.length = xs.length ∧ fn ys = swp (fn xs) a b i ∧ Keep w w' L) (fun i => n - i) 0 ⟨xs, rfl, by omega, h, rfl, by funext j; unfold swp; rw [if_neg (by omega), if_neg (by omega)], Keep.refl _ _⟩ ?_
  rintro i vals w1 K ⟨ys, rfl, hi, g1, hl, he, k1⟩ hK _
  simp only [List.getD_cons_zero, List.getD_cons_succ]
  by_cases hlt : i < n
  · have gd := g1.keep (Keep.drew w1 No) (fun _ _ _ h => h)
    have kd := k1.trans (Keep.drew w1 No) (fun _ _ h => h.elim)
    (repeat (first|refine ja ?_|refine jb ?_|refine jc ?_|refine jd ?_|refine je ?_|refine jf ?_|refine jg ?_|refine jh ?_|refine ji ?_|refine jj ?_|refine jk ?_|refine jl ?_|refine jm ?_|refine jn ?_|refine jo ?_|refine jp ?_|refine jq ?_|refine jr ?_|refine js ?_|refine jt ?_|refine ju ?_|refine jv ?_|refine jw ?_|refine jx ?_|refine jy ?_|refine jz ?_|refine jA ?_|refine jB ?_|refine jC ?_|refine jD ?_|refine jE ?_|refine jF ?_|refine jG ?_|refine jH ?_|refine jI ?_|refine jJ ?_|refine jK ?_|refine jL ?_|refine jM (by assumption) ?_|refine jN (by assumption) rfl ?_|refine jO (by assumption) ?_|refine jP (by assumption) rfl ?_|refine jQ ?_|refine jR ?_|refine jS ?_|refine jT ?_|refine jU (by assumption) rfl ?_))
    refine M.getI_i gd (by omega) (by omega) (fun ad hc => ?_)
    (repeat (first|refine ja ?_|refine jb ?_|refine jc ?_|refine jd ?_|refine je ?_|refine jf ?_|refine jg ?_|refine jh ?_|refine ji ?_|refine jj ?_|refine jk ?_|refine jl ?_|refine jm ?_|refine jn ?_|refine jo ?_|refine jp ?_|refine jq ?_|refine jr ?_|refine js ?_|refine jt ?_|refine ju ?_|refine jv ?_|refine jw ?_|refine jx ?_|refine jy ?_|refine jz ?_|refine jA ?_|refine jB ?_|refine jC ?_|refine jD ?_|refine jE ?_|refine jF ?_|refine jG ?_|refine jH ?_|refine jI ?_|refine jJ ?_|refine jK ?_|refine jL ?_|refine jM (by assumption) ?_|refine jN (by assumption) rfl ?_|refine jO (by assumption) ?_|refine jP (by assumption) rfl ?_|refine jQ ?_|refine jR ?_|refine jS ?_|refine jT ?_|refine jU (by assumption) rfl ?_))
    refine M.getI_i gd (by omega) (by omega) (fun ad hc => ?_)
    (repeat (first|refine ja ?_|refine jb ?_|refine jc ?_|refine jd ?_|refine je ?_|refine jf ?_|refine jg ?_|refine jh ?_|refine ji ?_|refine jj ?_|refine jk ?_|refine jl ?_|refine jm ?_|refine jn ?_|refine jo ?_|refine jp ?_|refine jq ?_|refine jr ?_|refine js ?_|refine jt ?_|refine ju ?_|refine jv ?_|refine jw ?_|refine jx ?_|refine jy ?_|refine jz ?_|refine jA ?_|refine jB ?_|refine jC ?_|refine jD ?_|refine jE ?_|refine jF ?_|refine jG ?_|refine jH ?_|refine jI ?_|refine jJ ?_|refine jK ?_|refine jL ?_|refine jM (by assumption) ?_|refine jN (by assumption) rfl ?_|refine jO (by assumption) ?_|refine jP (by assumption) rfl ?_|refine jQ ?_|refine jR ?_|refine jS ?_|refine jT ?_|refine jU (by assumption) rfl ?_))
    refine M.idxStore_i gd (by omega) (by omega) (fun w2 g2 k2 s2 => ?_)
    refine M.idxStore_i g2 (by omega) (by rw [List.length_set]; omega) (fun w3 g3 k3 s3 => ?_)
    (repeat (first|refine ja ?_|refine jb ?_|refine jc ?_|refine jd ?_|refine je ?_|refine jf ?_|refine jg ?_|refine jh ?_|refine ji ?_|refine jj ?_|refine jk ?_|refine jl ?_|refine jm ?_|refine jn ?_|refine jo ?_|refine jp ?_|refine jq ?_|refine jr ?_|refine js ?_|refine jt ?_|refine ju ?_|refine jv ?_|refine jw ?_|refine jx ?_|refine jy ?_|refine jz ?_|refine jA ?_|refine jB ?_|refine jC ?_|refine jD ?_|refine jE ?_|refine jF ?_|refine jG ?_|refine jH ?_|refine jI ?_|refine jJ ?_|refine jK ?_|refine jL ?_|refine jM (by assumption) ?_|refine jN (by assumption) rfl ?_|refine jO (by assumption) ?_|refine jP (by assumption) rfl ?_|refine jQ ?_|refine jR ?_|refine jS ?_|refine jT ?_|refine jU (by assumption) rfl ?_))
    refine hK (i + 1) _ _ (by omega) ⟨_, by simp, by omega, g3, by simpa using hl, ?_, (kd.trans k2 (fun _ _ h => h)).trans k3 (fun _ _ h => h)⟩
    funext j
    rw [fn_at _ _ (by rw [List.length_set]; omega), fn_at _ _ (by omega), he]
    have e1 : ((a : Int) + i).toNat = a + i := by omega
    have e2 : ((b : Int) + i).toNat = b + i := by omega
    rw [e1, e2]
    unfold swp
    by_cases c1 : j = b + i
    · subst c1
      rw [if_pos rfl]
      repeat' split
      all_goals first | omega | (congr 1 <;> omega)
    · rw [if_neg c1]
      by_cases c2 : j = a + i
      · subst c2
        rw [if_pos rfl]
        repeat' split
        all_goals first | omega | (congr 1 <;> omega)
      · rw [if_neg c2]
        repeat' split
        all_goals first | omega | rfl | (congr 1 <;> omega)
  · have e : i = n := by omega
    subst e
    (repeat (first|refine ja ?_|refine jb ?_|refine jc ?_|refine jd ?_|refine je ?_|refine jf ?_|refine jg ?_|refine jh ?_|refine ji ?_|refine jj ?_|refine jk ?_|refine jl ?_|refine jm ?_|refine jn ?_|refine jo ?_|refine jp ?_|refine jq ?_|refine jr ?_|refine js ?_|refine jt ?_|refine ju ?_|refine jv ?_|refine jw ?_|refine jx ?_|refine jy ?_|refine jz ?_|refine jA ?_|refine jB ?_|refine jC ?_|refine jD ?_|refine jE ?_|refine jF ?_|refine jG ?_|refine jH ?_|refine jI ?_|refine jJ ?_|refine jK ?_|refine jL ?_|refine jM (by assumption) ?_|refine jN (by assumption) rfl ?_|refine jO (by assumption) ?_|refine jP (by assumption) rfl ?_|refine jQ ?_|refine jR ?_|refine jS ?_|refine jT ?_|refine jU (by assumption) rfl ?_))
    exact ⟨by trivial, ys, g1, hl, he, k1⟩
theorem rotate_ret {w : World} {xs : List Int} (h : GI w L v xs) (hf : Few xs.length) {a m b : Nat} (ham : a < m) (hmb : m < b) (hb : b ≤ xs.length) (g : Value) :
    Ret Try.prog 21 #[v, vi a, vi m, vi b, g] w (fun r w' => r = .tuple #[] ∧ ∃ ys, GI w' L v ys ∧ ys.length = xs.length ∧ fn ys = rot (fn xs) a m b ∧ Keep w w' L) := by
  have hfx : xs.length ≤ 100000000000 := hf
  refine ok21 _ _ _ _ _ _ _ ?_
  unfold sh21
  (repeat (first|refine ja ?_|refine jb ?_|refine jc ?_|refine jd ?_|refine je ?_|refine jf ?_|refine jg ?_|refine jh ?_|refine ji ?_|refine jj ?_|refine jk ?_|refine jl ?_|refine jm ?_|refine jn ?_|refine jo ?_|refine jp ?_|refine jq ?_|refine jr ?_|refine js ?_|refine jt ?_|refine ju ?_|refine jv ?_|refine jw ?_|refine jx ?_|refine jy ?_|refine jz ?_|refine jA ?_|refine jB ?_|refine jC ?_|refine jD ?_|refine jE ?_|refine jF ?_|refine jG ?_|refine jH ?_|refine jI ?_|refine jJ ?_|refine jK ?_|refine jL ?_|refine jM (by assumption) ?_|refine jN (by assumption) rfl ?_|refine jO (by assumption) ?_|refine jP (by assumption) rfl ?_|refine jQ ?_|refine jR ?_|refine jS ?_|refine jT ?_|refine jU (by assumption) rfl ?_))
  refine M.loop_i (σ := Nat × Nat) (fun t vals w' => ∃ ys, vals = [vi t.1, vi t.2] ∧ 0 < t.1 ∧ 0 < t.2 ∧ t.1 ≤ m ∧ m + t.2 ≤ b ∧ GI w' L v ys ∧ ys.length = xs.length ∧ rot (fn ys) (m - t.1) m (m + t.2) = rot (fn xs) a m b ∧ Keep w w' L) (fun t => t.1 + t.2) (m - a, b - m)
    ⟨xs, by simp only [List.cons.injEq, Value.int.injEq, true_and, and_true]; omega, by show 0 < m - a; omega, by show 0 < b - m; omega, by show m - a ≤ m; omega, by show m + (b - m) ≤ b; omega, h, rfl, by
      have e1 : m - (m - a) = a := by omega
      have e2 : m + (b - m) = b := by omega
      show rot _ (m - (m - a)) m (m + (b - m)) = _
      rw [e1, e2], Keep.refl _ _⟩ ?_
  rintro ⟨i, j⟩ vals w1 K ⟨ys, rfl, hi, hj, him, hjb, g1, hl, he, k1⟩ hK _
  simp only at hi hj him hjb he
  simp only [List.getD_cons_zero, List.getD_cons_succ]
  by_cases hij : i = j
  · subst hij
    have e1 : ((m : Int) - i) = ((m - i : Nat) : Int) := by omega
    (repeat (first|refine ja ?_|refine jb ?_|refine jc ?_|refine jd ?_|refine je ?_|refine jf ?_|refine jg ?_|refine jh ?_|refine ji ?_|refine jj ?_|refine jk ?_|refine jl ?_|refine jm ?_|refine jn ?_|refine jo ?_|refine jp ?_|refine jq ?_|refine jr ?_|refine js ?_|refine jt ?_|refine ju ?_|refine jv ?_|refine jw ?_|refine jx ?_|refine jy ?_|refine jz ?_|refine jA ?_|refine jB ?_|refine jC ?_|refine jD ?_|refine jE ?_|refine jF ?_|refine jG ?_|refine jH ?_|refine jI ?_|refine jJ ?_|refine jK ?_|refine jL ?_|refine jM (by assumption) ?_|refine jN (by assumption) rfl ?_|refine jO (by assumption) ?_|refine jP (by assumption) rfl ?_|refine jQ ?_|refine jR ?_|refine jS ?_|refine jT ?_|refine jU (by assumption) rfl ?_))
    rw [e1]
    refine M.call_i (swapRange_ret g1 (by rw [hl]; exact hf) (a := m - i) (b := m) (n := i) (by omega) (by omega) g) ?_; rintro _ w2 ⟨rfl, zs, g2, hl2, he2, k2⟩
    refine ⟨by trivial, zs, g2, by omega, ?_, k1.trans k2 (fun _ _ h => h)⟩
    rw [he2, rot_eq _ him, he]
  · have e1 : ((m : Int) - i) = ((m - i : Nat) : Int) := by omega
    (repeat (first|refine ja ?_|refine jb ?_|refine jc ?_|refine jd ?_|refine je ?_|refine jf ?_|refine jg ?_|refine jh ?_|refine ji ?_|refine jj ?_|refine jk ?_|refine jl ?_|refine jm ?_|refine jn ?_|refine jo ?_|refine jp ?_|refine jq ?_|refine jr ?_|refine js ?_|refine jt ?_|refine ju ?_|refine jv ?_|refine jw ?_|refine jx ?_|refine jy ?_|refine jz ?_|refine jA ?_|refine jB ?_|refine jC ?_|refine jD ?_|refine jE ?_|refine jF ?_|refine jG ?_|refine jH ?_|refine jI ?_|refine jJ ?_|refine jK ?_|refine jL ?_|refine jM (by assumption) ?_|refine jN (by assumption) rfl ?_|refine jO (by assumption) ?_|refine jP (by assumption) rfl ?_|refine jQ ?_|refine jR ?_|refine jS ?_|refine jT ?_|refine jU (by assumption) rfl ?_))
    refine M.share_j (fun vals w' => ∃ (i' j' : Nat) (ys : List Int), vals = [vi i', vi j'] ∧ i' + j' < i + j ∧ 0 < i' ∧ 0 < j' ∧ i' ≤ m ∧ m + j' ≤ b ∧ GI w' L v ys ∧ ys.length = xs.length ∧ rot (fn ys) (m - i') m (m + j') = rot (fn xs) a m b ∧ Keep w w' L) ?_ ?_
    · rintro vals w2 ⟨i', j', zs, rfl, hs, a1, a2, a3, a4, a5, a6, a7, a8⟩ _
      simp only [List.getD_cons_zero, List.getD_cons_succ]
      exact hK (i', j') _ _ hs ⟨zs, rfl, a1, a2, a3, a4, a5, a6, a7, a8⟩
    · intro K2 hK2
      by_cases hgt : j < i
      · (repeat (first|refine ja ?_|refine jb ?_|refine jc ?_|refine jd ?_|refine je ?_|refine jf ?_|refine jg ?_|refine jh ?_|refine ji ?_|refine jj ?_|refine jk ?_|refine jl ?_|refine jm ?_|refine jn ?_|refine jo ?_|refine jp ?_|refine jq ?_|refine jr ?_|refine js ?_|refine jt ?_|refine ju ?_|refine jv ?_|refine jw ?_|refine jx ?_|refine jy ?_|refine jz ?_|refine jA ?_|refine jB ?_|refine jC ?_|refine jD ?_|refine jE ?_|refine jF ?_|refine jG ?_|refine jH ?_|refine jI ?_|refine jJ ?_|refine jK ?_|refine jL ?_|refine jM (by assumption) ?_|refine jN (by assumption) rfl ?_|refine jO (by assumption) ?_|refine jP (by assumption) rfl ?_|refine jQ ?_|refine jR ?_|refine jS ?_|refine jT ?_|refine jU (by assumption) rfl ?_))
        rw [e1]
        refine M.call_i (swapRange_ret g1 (by rw [hl]; exact hf) (a := m - i) (b := m) (n := j) (by omega) (by omega) g) ?_; rintro _ w2 ⟨rfl, zs, g2, hl2, he2, k2⟩
        (repeat (first|refine ja ?_|refine jb ?_|refine jc ?_|refine jd ?_|refine je ?_|refine jf ?_|refine jg ?_|refine jh ?_|refine ji ?_|refine jj ?_|refine jk ?_|refine jl ?_|refine jm ?_|refine jn ?_|refine jo ?_|refine jp ?_|refine jq ?_|refine jr ?_|refine js ?_|refine jt ?_|refine ju ?_|refine jv ?_|refine jw ?_|refine jx ?_|refine jy ?_|refine jz ?_|refine jA ?_|refine jB ?_|refine jC ?_|refine jD ?_|refine jE ?_|refine jF ?_|refine jG ?_|refine jH ?_|refine jI ?_|refine jJ ?_|refine jK ?_|refine jL ?_|refine jM (by assumption) ?_|refine jN (by assumption) rfl ?_|refine jO (by assumption) ?_|refine jP (by assumption) rfl ?_|refine jQ ?_|refine jR ?_|refine jS ?_|refine jT ?_|refine jU (by assumption) rfl ?_))
        refine hK2 _ _ ⟨i - j, j, zs, ?_, by omega, by omega, by omega, by omega, by omega, g2, by omega, ?_, k1.trans k2 (fun _ _ h => h)⟩
        · simp only [List.cons.injEq, Value.int.injEq, true_and, and_true]; omega
        · rw [he2, rot_gt _ him hj hgt, he]
      · have e2 : ((m : Int) + j - i) = ((m + j - i : Nat) : Int) := by omega
        (repeat (first|refine ja ?_|refine jb ?_|refine jc ?_|refine jd ?_|refine je ?_|refine jf ?_|refine jg ?_|refine jh ?_|refine ji ?_|refine jj ?_|refine jk ?_|refine jl ?_|refine jm ?_|refine jn ?_|refine jo ?_|refine jp ?_|refine jq ?_|refine jr ?_|refine js ?_|refine jt ?_|refine ju ?_|refine jv ?_|refine jw ?_|refine jx ?_|refine jy ?_|refine jz ?_|refine jA ?_|refine jB ?_|refine jC ?_|refine jD ?_|refine jE ?_|refine jF ?_|refine jG ?_|refine jH ?_|refine jI ?_|refine jJ ?_|refine jK ?_|refine jL ?_|refine jM (by assumption) ?_|refine jN (by assumption) rfl ?_|refine jO (by assumption) ?_|refine jP (by assumption) rfl ?_|refine jQ ?_|refine jR ?_|refine jS ?_|refine jT ?_|refine jU (by assumption) rfl ?_))
        rw [e1, e2]
        refine M.call_i (swapRange_ret g1 (by rw [hl]; exact hf) (a := m - i) (b := m + j - i) (n := i) (by omega) (by omega) g) ?_; rintro _ w2 ⟨rfl, zs, g2, hl2, he2, k2⟩
        (repeat (first|refine ja ?_|refine jb ?_|refine jc ?_|refine jd ?_|refine je ?_|refine jf ?_|refine jg ?_|refine jh ?_|refine ji ?_|refine jj ?_|refine jk ?_|refine jl ?_|refine jm ?_|refine jn ?_|refine jo ?_|refine jp ?_|refine jq ?_|refine jr ?_|refine js ?_|refine jt ?_|refine ju ?_|refine jv ?_|refine jw ?_|refine jx ?_|refine jy ?_|refine jz ?_|refine jA ?_|refine jB ?_|refine jC ?_|refine jD ?_|refine jE ?_|refine jF ?_|refine jG ?_|refine jH ?_|refine jI ?_|refine jJ ?_|refine jK ?_|refine jL ?_|refine jM (by assumption) ?_|refine jN (by assumption) rfl ?_|refine jO (by assumption) ?_|refine jP (by assumption) rfl ?_|refine jQ ?_|refine jR ?_|refine jS ?_|refine jT ?_|refine jU (by assumption) rfl ?_))
        refine hK2 _ _ ⟨i, j - i, zs, ?_, by omega, by omega, by omega, by omega, by omega, g2, by omega, ?_, k1.trans k2 (fun _ _ h => h)⟩
        · simp only [List.cons.injEq, Value.int.injEq, true_and, and_true]; omega
        · rw [he2, rot_lt _ him hi (by omega), he]
end
section
variable {L : Nat → Prop} {v g : Value} {I : World → Prop} {lt : Int → Int → Bool} {Okk : Int → Prop}
theorem insort_ret {w : World} {xs : List Int} (hw : Wk lt) (h : GI w L v xs) (hf : Few xs.length) (hc : CmpF g I lt Okk) (hI : I w) (hIk : ∀ w w', I w → Keep w w' L → I w') {a b : Nat} (hab : a ≤ b) (hb : b ≤ xs.length) (hok : ∀ j, a ≤ j → j < b → Okk (fn xs j))
    (hup : ∀ i j, a ≤ i → i < j → j < b → fn xs i < fn xs j) :
    Ret Try.prog 19 #[v, vi a, vi b, g] w (fun r w' => r = .tuple #[] ∧ ∃ ys, GI w' L v ys ∧ ys.length = xs.length ∧ Sg lt (fn ys) a b ∧ Ch (fn xs) (fn ys) a b ∧ Keep w w' L) := by
  have hfx : xs.length ≤ 100000000000 := hf
  refine ok19 _ _ _ _ _ _ ?_
  unfold sh19
  (repeat (first|refine ja ?_|refine jb ?_|refine jc ?_|refine jd ?_|refine je ?_|refine jf ?_|refine jg ?_|refine jh ?_|refine ji ?_|refine jj ?_|refine jk ?_|refine jl ?_|refine jm ?_|refine jn ?_|refine jo ?_|refine jp ?_|refine jq ?_|refine jr ?_|refine js ?_|refine jt ?_|refine ju ?_|refine jv ?_|refine jw ?_|refine jx ?_|refine jy ?_|refine jz ?_|refine jA ?_|refine jB ?_|refine jC ?_|refine jD ?_|refine jE ?_|refine jF ?_|refine jG ?_|refine jH ?_|refine jI ?_|refine jJ ?_|refine jK ?_|refine jL ?_|refine jM (by assumption) ?_|refine jN (by assumption) rfl ?_|refine jO (by assumption) ?_|refine jP (by assumption) rfl ?_|refine jQ ?_|refine jR ?_|refine jS ?_|refine jT ?_|refine jU (by assumption) rfl ?_))
  refine M.loop_i (σ := Nat) (fun i vals w' => ∃ ys, vals = [vi i] ∧ a < i ∧ i ≤ max b (a + 1) ∧ GI w' L v ys ∧ ys.length = xs.length ∧ Sg lt (fn ys) a i ∧ Ch (fn xs) (fn ys) a (min i b) ∧ Keep w w' L) (fun i => b + 1 - i) (a + 1)
    ⟨xs, by simp, by omega, by omega, h, rfl, fun i j h1 h2 h3 => by omega, Ch.refl _ _ _, Keep.refl _ _⟩ ?_
  rintro i vals w1 K ⟨ys, rfl, hai, hib, g1, hl, hs, hch, k1⟩ hK _
  simp only [List.getD_cons_zero, List.getD_cons_succ]
  by_cases hlt : i < b
  · have emin : min i b = i := by omega
    rw [emin] at hch
    have hyi : fn ys i = fn xs i := hch.out i (.inr (Nat.le_refl _))
    have hsm : ∀ t, a ≤ t → t < i → fn ys t < fn ys i := fun t h1 h2 => by
      obtain ⟨j, hj1, hj2, hj⟩ := (hch.same (fn ys t)).1 (In.mk h1 h2)
      rw [← hj, hyi]; exact hup j i hj1 hj2 hlt
    have hokk : ∀ t, a ≤ t → t < i + 1 → Okk (fn ys t) := fun t h1 h2 => by
      by_cases e : t = i
      · subst e; rw [hyi]; exact hok _ (by omega) hlt
      · obtain ⟨j, hj1, hj2, hj⟩ := (hch.same (fn ys t)).1 (In.mk h1 (by omega))
        rw [← hj]; exact hok j hj1 (by omega)
    have hin0 : ∀ p, a ≤ p → p ≤ i → Ch (fn ys) (insL (fn ys) p i) a (i + 1) := fun p h1 h2 => insL_in _ h1 h2 (by omega)
    (repeat (first|refine ja ?_|refine jb ?_|refine jc ?_|refine jd ?_|refine je ?_|refine jf ?_|refine jg ?_|refine jh ?_|refine ji ?_|refine jj ?_|refine jk ?_|refine jl ?_|refine jm ?_|refine jn ?_|refine jo ?_|refine jp ?_|refine jq ?_|refine jr ?_|refine js ?_|refine jt ?_|refine ju ?_|refine jv ?_|refine jw ?_|refine jx ?_|refine jy ?_|refine jz ?_|refine jA ?_|refine jB ?_|refine jC ?_|refine jD ?_|refine jE ?_|refine jF ?_|refine jG ?_|refine jH ?_|refine jI ?_|refine jJ ?_|refine jK ?_|refine jL ?_|refine jM (by assumption) ?_|refine jN (by assumption) rfl ?_|refine jO (by assumption) ?_|refine jP (by assumption) rfl ?_|refine jQ ?_|refine jR ?_|refine jS ?_|refine jT ?_|refine jU (by assumption) rfl ?_))
    refine M.loop_i (σ := Nat) (fun p vals w' => ∃ zs, vals = [vi p] ∧ a ≤ p ∧ p ≤ i ∧ GI w' L v zs ∧ zs.length = xs.length ∧ fn zs = insL (fn ys) p i ∧ (∀ t, p ≤ t → t < i → lt (fn ys i) (fn ys t) = true) ∧ Keep w w' L) (fun p => p) i
      ⟨ys, rfl, by omega, Nat.le_refl _, g1, hl, by
        funext t; unfold insL
        repeat' split
        all_goals first | omega | rfl | (congr 1 <;> omega), fun t h1 h2 => by omega, k1⟩ ?_
    rintro p vals w2 K2 ⟨zs, rfl, hap, hpi, g2, hl2, he, hltt, k2⟩ hK2 _
    simp only [List.getD_cons_zero, List.getD_cons_succ]
    have kd := Keep.drew w2 No
    have gd := g2.keep kd (fun _ _ _ h => h)
    have k2d := k2.trans kd (fun _ _ h => h.elim)
    have done : ∀ w3, Keep w2 w3 No → (a < p → lt (fn ys i) (fn ys (p - 1)) = false) → K [vi (((i + 1 : Nat)) : Int)] w3 := fun w3 k3 hno => by
      have g3 := g2.keep k3 (fun _ _ _ h => h)
      refine hK (i + 1) _ _ (by omega) ⟨zs, rfl, by omega, by omega, g3, hl2, ?_, ?_, k2.trans k3 (fun _ _ h => h.elim)⟩
      · rw [he]; exact sg_ins hw hs hap hpi hltt hno hsm
      · have e : min (i + 1) b = i + 1 := by omega
        rw [e, he]; exact (hch.wide (Nat.le_refl _) (by omega) (by omega)).trans (hin0 p hap hpi)
    have e1 : ((i : Int) + 1) = ((i + 1 : Nat) : Int) := by omega
    by_cases hpa : a < p
    · have hzp : fn zs p = fn ys i := by
        rw [he]; unfold insL; rw [if_neg (by omega), if_pos rfl]
      have hzp1 : fn zs (p - 1) = fn ys (p - 1) := by
        rw [he]; unfold insL; rw [if_pos (by omega)]
      (repeat (first|refine ja ?_|refine jb ?_|refine jc ?_|refine jd ?_|refine je ?_|refine jf ?_|refine jg ?_|refine jh ?_|refine ji ?_|refine jj ?_|refine jk ?_|refine jl ?_|refine jm ?_|refine jn ?_|refine jo ?_|refine jp ?_|refine jq ?_|refine jr ?_|refine js ?_|refine jt ?_|refine ju ?_|refine jv ?_|refine jw ?_|refine jx ?_|refine jy ?_|refine jz ?_|refine jA ?_|refine jB ?_|refine jC ?_|refine jD ?_|refine jE ?_|refine jF ?_|refine jG ?_|refine jH ?_|refine jI ?_|refine jJ ?_|refine jK ?_|refine jL ?_|refine jM (by assumption) ?_|refine jN (by assumption) rfl ?_|refine jO (by assumption) ?_|refine jP (by assumption) rfl ?_|refine jQ ?_|refine jR ?_|refine jS ?_|refine jT ?_|refine jU (by assumption) rfl ?_))
      refine M.getI_i gd (by omega) (by omega) (fun ad hcc => ?_)
      (repeat (first|refine ja ?_|refine jb ?_|refine jc ?_|refine jd ?_|refine je ?_|refine jf ?_|refine jg ?_|refine jh ?_|refine ji ?_|refine jj ?_|refine jk ?_|refine jl ?_|refine jm ?_|refine jn ?_|refine jo ?_|refine jp ?_|refine jq ?_|refine jr ?_|refine js ?_|refine jt ?_|refine ju ?_|refine jv ?_|refine jw ?_|refine jx ?_|refine jy ?_|refine jz ?_|refine jA ?_|refine jB ?_|refine jC ?_|refine jD ?_|refine jE ?_|refine jF ?_|refine jG ?_|refine jH ?_|refine jI ?_|refine jJ ?_|refine jK ?_|refine jL ?_|refine jM (by assumption) ?_|refine jN (by assumption) rfl ?_|refine jO (by assumption) ?_|refine jP (by assumption) rfl ?_|refine jQ ?_|refine jR ?_|refine jS ?_|refine jT ?_|refine jU (by assumption) rfl ?_))
      refine M.getI_i gd (by omega) (by omega) (fun ad hcc => ?_)
      (repeat (first|refine ja ?_|refine jb ?_|refine jc ?_|refine jd ?_|refine je ?_|refine jf ?_|refine jg ?_|refine jh ?_|refine ji ?_|refine jj ?_|refine jk ?_|refine jl ?_|refine jm ?_|refine jn ?_|refine jo ?_|refine jp ?_|refine jq ?_|refine jr ?_|refine js ?_|refine jt ?_|refine ju ?_|refine jv ?_|refine jw ?_|refine jx ?_|refine jy ?_|refine jz ?_|refine jA ?_|refine jB ?_|refine jC ?_|refine jD ?_|refine jE ?_|refine jF ?_|refine jG ?_|refine jH ?_|refine jI ?_|refine jJ ?_|refine jK ?_|refine jL ?_|refine jM (by assumption) ?_|refine jN (by assumption) rfl ?_|refine jO (by assumption) ?_|refine jP (by assumption) rfl ?_|refine jQ ?_|refine jR ?_|refine jS ?_|refine jT ?_|refine jU (by assumption) rfl ?_))
      have ep : ((p : Int)).toNat = p := by omega
      have ep1 : ((p : Int) - 1).toNat = p - 1 := by omega
      rw [ep, ep1, hzp, hzp1]
      refine hc _ _ _ _ (hokk i (by omega) (by omega)) (hokk (p - 1) (by omega) (by omega)) (hIk _ _ hI k2d) (fun z w3 hz k3 => ?_)
      refine M.gd_tt ?_
      refine M.lss_i ?_
      rw [hz]
      refine M.pick_t ?_
      have k3' := kd.trans k3 (fun _ _ h => h)
      have g3 := g2.keep k3' (fun _ _ _ h => h)
      cases hq : lt (fn ys i) (fn ys (p - 1)) with
      | false =>
        (repeat (first|refine ja ?_|refine jb ?_|refine jc ?_|refine jd ?_|refine je ?_|refine jf ?_|refine jg ?_|refine jh ?_|refine ji ?_|refine jj ?_|refine jk ?_|refine jl ?_|refine jm ?_|refine jn ?_|refine jo ?_|refine jp ?_|refine jq ?_|refine jr ?_|refine js ?_|refine jt ?_|refine ju ?_|refine jv ?_|refine jw ?_|refine jx ?_|refine jy ?_|refine jz ?_|refine jA ?_|refine jB ?_|refine jC ?_|refine jD ?_|refine jE ?_|refine jF ?_|refine jG ?_|refine jH ?_|refine jI ?_|refine jJ ?_|refine jK ?_|refine jL ?_|refine jM (by assumption) ?_|refine jN (by assumption) rfl ?_|refine jO (by assumption) ?_|refine jP (by assumption) rfl ?_|refine jQ ?_|refine jR ?_|refine jS ?_|refine jT ?_|refine jU (by assumption) rfl ?_))
        rw [e1]; exact done w3 k3' (fun _ => hq)
      | true =>
        have kd3 := Keep.drew w3 No
        have gd3 := g3.keep kd3 (fun _ _ _ h => h)
        (repeat (first|refine ja ?_|refine jb ?_|refine jc ?_|refine jd ?_|refine je ?_|refine jf ?_|refine jg ?_|refine jh ?_|refine ji ?_|refine jj ?_|refine jk ?_|refine jl ?_|refine jm ?_|refine jn ?_|refine jo ?_|refine jp ?_|refine jq ?_|refine jr ?_|refine js ?_|refine jt ?_|refine ju ?_|refine jv ?_|refine jw ?_|refine jx ?_|refine jy ?_|refine jz ?_|refine jA ?_|refine jB ?_|refine jC ?_|refine jD ?_|refine jE ?_|refine jF ?_|refine jG ?_|refine jH ?_|refine jI ?_|refine jJ ?_|refine jK ?_|refine jL ?_|refine jM (by assumption) ?_|refine jN (by assumption) rfl ?_|refine jO (by assumption) ?_|refine jP (by assumption) rfl ?_|refine jQ ?_|refine jR ?_|refine jS ?_|refine jT ?_|refine jU (by assumption) rfl ?_))
        refine M.getI_i gd3 (by omega) (by omega) (fun ad hcc => ?_)
        (repeat (first|refine ja ?_|refine jb ?_|refine jc ?_|refine jd ?_|refine je ?_|refine jf ?_|refine jg ?_|refine jh ?_|refine ji ?_|refine jj ?_|refine jk ?_|refine jl ?_|refine jm ?_|refine jn ?_|refine jo ?_|refine jp ?_|refine jq ?_|refine jr ?_|refine js ?_|refine jt ?_|refine ju ?_|refine jv ?_|refine jw ?_|refine jx ?_|refine jy ?_|refine jz ?_|refine jA ?_|refine jB ?_|refine jC ?_|refine jD ?_|refine jE ?_|refine jF ?_|refine jG ?_|refine jH ?_|refine jI ?_|refine jJ ?_|refine jK ?_|refine jL ?_|refine jM (by assumption) ?_|refine jN (by assumption) rfl ?_|refine jO (by assumption) ?_|refine jP (by assumption) rfl ?_|refine jQ ?_|refine jR ?_|refine jS ?_|refine jT ?_|refine jU (by assumption) rfl ?_))
        refine M.getI_i gd3 (by omega) (by omega) (fun ad hcc => ?_)
        (repeat (first|refine ja ?_|refine jb ?_|refine jc ?_|refine jd ?_|refine je ?_|refine jf ?_|refine jg ?_|refine jh ?_|refine ji ?_|refine jj ?_|refine jk ?_|refine jl ?_|refine jm ?_|refine jn ?_|refine jo ?_|refine jp ?_|refine jq ?_|refine jr ?_|refine js ?_|refine jt ?_|refine ju ?_|refine jv ?_|refine jw ?_|refine jx ?_|refine jy ?_|refine jz ?_|refine jA ?_|refine jB ?_|refine jC ?_|refine jD ?_|refine jE ?_|refine jF ?_|refine jG ?_|refine jH ?_|refine jI ?_|refine jJ ?_|refine jK ?_|refine jL ?_|refine jM (by assumption) ?_|refine jN (by assumption) rfl ?_|refine jO (by assumption) ?_|refine jP (by assumption) rfl ?_|refine jQ ?_|refine jR ?_|refine jS ?_|refine jT ?_|refine jU (by assumption) rfl ?_))
        refine M.idxStore_i gd3 (by omega) (by omega) (fun w4 g4 k4 s4 => ?_)
        refine M.idxStore_i g4 (by omega) (by rw [List.length_set]; omega) (fun w5 g5 k5 s5 => ?_)
        have e2 : ((p : Int) - 1) = ((p - 1 : Nat) : Int) := by omega
        (repeat (first|refine ja ?_|refine jb ?_|refine jc ?_|refine jd ?_|refine je ?_|refine jf ?_|refine jg ?_|refine jh ?_|refine ji ?_|refine jj ?_|refine jk ?_|refine jl ?_|refine jm ?_|refine jn ?_|refine jo ?_|refine jp ?_|refine jq ?_|refine jr ?_|refine js ?_|refine jt ?_|refine ju ?_|refine jv ?_|refine jw ?_|refine jx ?_|refine jy ?_|refine jz ?_|refine jA ?_|refine jB ?_|refine jC ?_|refine jD ?_|refine jE ?_|refine jF ?_|refine jG ?_|refine jH ?_|refine jI ?_|refine jJ ?_|refine jK ?_|refine jL ?_|refine jM (by assumption) ?_|refine jN (by assumption) rfl ?_|refine jO (by assumption) ?_|refine jP (by assumption) rfl ?_|refine jQ ?_|refine jR ?_|refine jS ?_|refine jT ?_|refine jU (by assumption) rfl ?_))
        rw [e2]
        refine hK2 (p - 1) _ _ (by omega) ⟨_, rfl, by omega, by omega, g5, by simpa using hl2, ?_, fun t h1 h2 => ?_, (((k2.trans k3' (fun _ _ h => h.elim)).trans kd3 (fun _ _ h => h.elim)).trans k4 (fun _ _ h => h)).trans k5 (fun _ _ h => h)⟩
        · funext t
          rw [ep, ep1, fn_at _ _ (by rw [List.length_set]; omega), fn_at _ _ (by omega), hzp, hzp1, he]
          unfold insL
          by_cases c1 : t = p - 1
          · subst c1
            rw [if_pos rfl, if_neg (by omega), if_pos rfl]
          · rw [if_neg c1]
            by_cases c2 : t = p
            · subst c2
              rw [if_pos rfl]
              repeat' split
              all_goals first | omega | rfl
            · rw [if_neg c2]
              repeat' split
              all_goals first | omega | rfl
        · by_cases e : t = p - 1
          · rw [e]; exact hq
          · exact hltt t (by omega) h2
    · (repeat (first|refine ja ?_|refine jb ?_|refine jc ?_|refine jd ?_|refine je ?_|refine jf ?_|refine jg ?_|refine jh ?_|refine ji ?_|refine jj ?_|refine jk ?_|refine jl ?_|refine jm ?_|refine jn ?_|refine jo ?_|refine jp ?_|refine jq ?_|refine jr ?_|refine js ?_|refine jt ?_|refine ju ?_|refine jv ?_|refine jw ?_|refine jx ?_|refine jy ?_|refine jz ?_|refine jA ?_|refine jB ?_|refine jC ?_|refine jD ?_|refine jE ?_|refine jF ?_|refine jG ?_|refine jH ?_|refine jI ?_|refine jJ ?_|refine jK ?_|refine jL ?_|refine jM (by assumption) ?_|refine jN (by assumption) rfl ?_|refine jO (by assumption) ?_|refine jP (by assumption) rfl ?_|refine jQ ?_|refine jR ?_|refine jS ?_|refine jT ?_|refine jU (by assumption) rfl ?_))
      rw [e1]; exact done _ kd (fun h => absurd h hpa)
  · (repeat (first|refine ja ?_|refine jb ?_|refine jc ?_|refine jd ?_|refine je ?_|refine jf ?_|refine jg ?_|refine jh ?_|refine ji ?_|refine jj ?_|refine jk ?_|refine jl ?_|refine jm ?_|refine jn ?_|refine jo ?_|refine jp ?_|refine jq ?_|refine jr ?_|refine js ?_|refine jt ?_|refine ju ?_|refine jv ?_|refine jw ?_|refine jx ?_|refine jy ?_|refine jz ?_|refine jA ?_|refine jB ?_|refine jC ?_|refine jD ?_|refine jE ?_|refine jF ?_|refine jG ?_|refine jH ?_|refine jI ?_|refine jJ ?_|refine jK ?_|refine jL ?_|refine jM (by assumption) ?_|refine jN (by assumption) rfl ?_|refine jO (by assumption) ?_|refine jP (by assumption) rfl ?_|refine jQ ?_|refine jR ?_|refine jS ?_|refine jT ?_|refine jU (by assumption) rfl ?_))
    refine ⟨by trivial, ys, g1, hl, ?_, ?_, k1⟩
    · exact fun x y h1 h2 h3 => hs x y h1 h2 (by omega)
    · have e : min i b = b := by omega
      rw [e] at hch; exact hch
end
end Go.Proofs.Ythcfmfkigioaeaa
