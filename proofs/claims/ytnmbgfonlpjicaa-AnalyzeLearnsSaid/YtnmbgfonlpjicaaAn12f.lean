import Derived.Test.YtnmbgfonlpjicaaAn12e
import Derived.Test.YtnmbgfonlpjicaaFew04w
import Derived.Test.YtnmbgfonlpjicaaRef03
import Derived.Test.YtnmbgfonlpjicaaSlices
namespace Go.Proofs.Ytnmbgfonlpjicaa
open Go.Mw
set_option linter.unusedVariables false
set_option linter.unusedSimpArgs false
set_option maxRecDepth 100000
attribute [local irreducible] M.val M.unit M.next M.pick M.new M.nilCheck M.load1 M.loadA M.store M.fieldAddr M.indexSl M.indexArr M.slice M.makeSlice M.buildSlice M.len M.lenS M.cap M.append M.extract M.conv M.not M.neg M.bin M.shift M.eqB M.eqNil M.call M.callv M.gd M.share M.cond M.loop M.draw pureW readW Ret
/-! breakwater/analyze.Glue: function 8 -/
def sh8 (x0 x1 : Value) (R : Kt) (w : World) : Prop :=
  M.len x1 (fun t10 w =>
  M.loop [(Value.slice none 0 0), (Value.int IntKind.i64 0)] (fun s1 K1 w => ∀ _ : List Value,
  M.bin .lss (s1.getD 1 undef) t10 (fun t12 w =>
  M.cond t12
  (M.share (fun K2 w =>
  M.indexSl 1 x1 (s1.getD 1 undef) (fun t13 w =>
  M.load1 t13 (fun t14 w =>
  M.call Try.prog 22 #[t14] (fun t17 w =>
  M.call Try.prog 21 #[x0, t17] (fun t18 w =>
  M.bin .gtr t18 (Value.int IntKind.i64 0) (fun t20 w =>
  M.gd t20 true (fun k w => k (s1.getD 0 undef) w) (fun t22 w =>
  M.gd t20 true (fun k w => k t18 w) (fun t23 w =>
  M.gd t20 true (fun k w => M.call Try.prog 29 #[t22, t23] k w) (fun t24 w =>
  M.gd t20 true (fun k w => M.not t24 k w) (fun t25 w =>
  M.pick t20 t25 (Value.bool false) (fun t26 w =>
  M.cond t26
  (M.buildSlice 3 1 #[.int .i64 0] 1 [(0, t18)] (fun t29 w =>
  M.append 3 1 8 #[.int .i64 0] (s1.getD 0 undef) t29 (fun t30 w =>
  K2 [t30] w) w) w)
  (K2 [(s1.getD 0 undef)] w)) w) w) w) w) w) w) w) w) w) w) (fun s2 w => ∀ _ : List Value,
  M.bin .add (s1.getD 1 undef) (Value.int IntKind.i64 1) (fun t31 w =>
  K1 [(s2.getD 0 undef), t31] w) w) w)
  (M.len (s1.getD 0 undef) (fun t33 w =>
  R t33 w) w)) w) w) w
theorem ok8 (x0 x1 : Value) (R : Kt) (w : World) (h : sh8 x0 x1 R w) : Ret Try.prog 8 #[x0, x1] w R :=
  ret_mk <| calls_of_comp mixed (c := Try.f8.body.getD .skip) (args := [x0, x1]) (rs := [(ResultVar.tmp 4)]) (Ann.seq Ann.text (Ann.seq Ann.text (Ann.seq (Ann.seq Ann.text (Ann.block (Ann.loop [5, 11] [7, 8, 12, 13, 14, 15, 16, 17, 18, 19, 20, 21, 22, 23, 24, 25, 26, 27, 28, 29, 30, 31] (Ann.seq Ann.text (Ann.seq (Ann.cond Ann.leaf Ann.leaf) (Ann.seq (Ann.jblock [5] [7, 8, 13, 14, 15, 16, 17, 18, 19, 20, 21, 22, 23, 24, 25, 26, 27, 28, 29, 30] (Ann.seq Ann.text (Ann.seq Ann.text (Ann.seq Ann.text (Ann.cond Ann.text Ann.leaf))))) Ann.text)))))) (Ann.seq Ann.text Ann.leaf))))
    Try.func8 (by kernel_rfl) (by kernel_rfl)
    (Eq.mp (by kernel_rfl) h)
/-! breakwater/breakwaterlaw12.awake: function 6 -/
def sh6 (R : Kt) (w : World) : Prop :=
  M.call Try.prog 9 #[(Value.int IntKind.i64 2)] (fun t11 w =>
  M.eqNil 0 false t11 (fun t13 w =>
  M.cond t13
  (R (Value.bool false) w)
  (M.buildSlice 3 1 #[.int .i64 0] 2 [(0, (Value.int IntKind.i64 1)), (1, (Value.int IntKind.i64 2))] (fun t14 w =>
  M.buildSlice 3 1 #[.int .i64 0] 2 [(0, (Value.int IntKind.i64 1)), (1, (Value.int IntKind.i64 3))] (fun t15 w =>
  M.buildSlice 25 1 #[.slice none 0 0] 2 [(0, t14), (1, t15)] (fun t16 w =>
  M.call Try.prog 13 #[t11, (Value.int IntKind.i64 0)] (fun t18 w =>
  M.call Try.prog 16 #[t11, (Value.int IntKind.i64 2), (Value.int IntKind.i64 0)] (fun t20 w =>
  M.call Try.prog 7 #[t11, t16, (Value.int IntKind.i64 1)] (fun t24 w =>
  M.extract 0 t24 (fun t25 w =>
  M.extract 1 t24 (fun t26 w =>
  M.extract 2 t24 (fun t27 w =>
  M.extract 3 t24 (fun t28 w =>
  M.call Try.prog 7 #[t11, t16, (Value.int IntKind.i64 0)] (fun t32 w =>
  M.extract 0 t32 (fun t33 w =>
  M.extract 1 t32 (fun t34 w =>
  M.extract 2 t32 (fun t35 w =>
  M.extract 3 t32 (fun t36 w =>
  M.buildSlice 3 1 #[.int .i64 0] 1 [(0, (Value.int IntKind.i64 1))] (fun t38 w =>
  M.call Try.prog 17 #[t25, t38] (fun t39 w =>
  M.gd t39 true (fun k w => k t26 w) (fun t41 w =>
  M.gd t39 true (fun k w => M.bin .eql t41 (Value.int IntKind.i64 0) k w) (fun t42 w =>
  M.pick t39 t42 (Value.bool false) (fun t43 w =>
  M.gd t43 true (fun k w => k t27 w) (fun t45 w =>
  M.gd t43 true (fun k w => M.buildSlice 3 1 #[.int .i64 0] 2 [(0, (Value.int IntKind.i64 0)), (1, (Value.int IntKind.i64 1))] k w) (fun t46 w =>
  M.gd t43 true (fun k w => M.call Try.prog 17 #[t45, t46] k w) (fun t47 w =>
  M.pick t43 t47 (Value.bool false) (fun t48 w =>
  M.gd t48 true (fun k w => k t28 w) (fun t50 w =>
  M.pick t48 t50 (Value.bool false) (fun t51 w =>
  M.gd t51 true (fun k w => k t36 w) (fun t53 w =>
  M.gd t51 true (fun k w => M.not t53 k w) (fun t54 w =>
  M.pick t51 t54 (Value.bool false) (fun t55 w =>
  M.gd t55 true (fun k w => k t11 w) (fun t57 w =>
  M.gd t55 true (fun k w => M.buildSlice 3 1 #[.int .i64 0] 3 [(0, (Value.int IntKind.i64 0)), (1, (Value.int IntKind.i64 2)), (2, (Value.int IntKind.i64 3))] k w) (fun t58 w =>
  M.gd t55 true (fun k w => M.call Try.prog 8 #[t57, t58] k w) (fun t59 w =>
  M.gd t55 true (fun k w => M.bin .eql t59 (Value.int IntKind.i64 1) k w) (fun t60 w =>
  M.pick t55 t60 (Value.bool false) (fun t61 w =>
  R t61 w) w) w) w) w) w) w) w) w) w) w) w) w) w) w) w) w) w) w) w) w) w) w) w) w) w) w) w) w) w) w) w) w) w) w)) w) w
theorem ok6 (R : Kt) (w : World) (h : sh6 R w) : Ret Try.prog 6 #[] w R :=
  ret_mk <| calls_of_comp mixed (c := Try.f6.body.getD .skip) (args := []) (rs := [(ResultVar.tmp 0)]) (Ann.seq Ann.text (Ann.seq Ann.text (Ann.seq (Ann.seq Ann.text (Ann.cond (Ann.seq Ann.text Ann.leaf) Ann.leaf)) (Ann.seq Ann.text (Ann.seq Ann.text (Ann.seq Ann.text (Ann.seq Ann.text (Ann.seq Ann.text (Ann.seq Ann.text Ann.leaf)))))))))
    Try.func6 (by kernel_rfl) (by kernel_rfl)
    (Eq.mp (by kernel_rfl) h)
/-! breakwater/breakwaterlaw12.AnalyzeNone: function 3 -/
def sh3 (x0 x1 : Value) (R : Kt) (w : World) : Prop :=
  M.call Try.prog 5 #[x0, (Value.int IntKind.i64 30)] (fun t10 w =>
  M.bin .eql t10 (Value.int IntKind.i64 0) (fun t11 w =>
  M.cond t11
  (M.call Try.prog 6 #[] (fun t12 w =>
  R t12 w) w)
  (M.call Try.prog 7 #[(Value.pointer none), x0, x1] (fun t16 w =>
  M.extract 0 t16 (fun t17 w =>
  M.extract 1 t16 (fun t18 w =>
  M.extract 2 t16 (fun t19 w =>
  M.extract 3 t16 (fun t20 w =>
  M.len t17 (fun t22 w =>
  M.bin .eql t22 (Value.int IntKind.i64 0) (fun t23 w =>
  M.gd t23 true (fun k w => k t18 w) (fun t25 w =>
  M.gd t23 true (fun k w => M.bin .eql t25 (Value.int IntKind.i64 0) k w) (fun t26 w =>
  M.pick t23 t26 (Value.bool false) (fun t27 w =>
  M.gd t27 true (fun k w => k t19 w) (fun t29 w =>
  M.gd t27 true (fun k w => M.len t29 k w) (fun t30 w =>
  M.gd t27 true (fun k w => M.bin .eql t30 (Value.int IntKind.i64 0) k w) (fun t31 w =>
  M.pick t27 t31 (Value.bool false) (fun t32 w =>
  M.gd t32 true (fun k w => k t20 w) (fun t34 w =>
  M.gd t32 true (fun k w => M.not t34 k w) (fun t35 w =>
  M.pick t32 t35 (Value.bool false) (fun t36 w =>
  M.gd t36 true (fun k w => M.buildSlice 3 1 #[.int .i64 0] 2 [(0, (Value.int IntKind.i64 0)), (1, (Value.int IntKind.i64 5))] k w) (fun t38 w =>
  M.gd t36 true (fun k w => M.call Try.prog 8 #[(Value.pointer none), t38] k w) (fun t39 w =>
  M.gd t36 true (fun k w => M.bin .eql t39 (Value.int IntKind.i64 0) k w) (fun t40 w =>
  M.pick t36 t40 (Value.bool false) (fun t41 w =>
  M.gd t41 true (fun k w => M.call Try.prog 6 #[] k w) (fun t43 w =>
  M.pick t41 t43 (Value.bool false) (fun t44 w =>
  R t44 w) w) w) w) w) w) w) w) w) w) w) w) w) w) w) w) w) w) w) w) w) w) w) w)) w) w
theorem ok3 (x0 x1 : Value) (R : Kt) (w : World) (h : sh3 x0 x1 R w) : Ret Try.prog 3 #[x0, x1] w R :=
  ret_mk <| calls_of_comp mixed (c := Try.f3.body.getD .skip) (args := [x0, x1]) (rs := [(ResultVar.tmp 4)]) (Ann.seq Ann.text (Ann.seq (Ann.seq Ann.text (Ann.cond (Ann.seq Ann.text Ann.leaf) Ann.leaf)) (Ann.seq Ann.text (Ann.seq Ann.text Ann.leaf))))
    Try.func3 (by kernel_rfl) (by kernel_rfl)
    (Eq.mp (by kernel_rfl) h)

def glueL (lev : Int → Int) (xs : List Int) : List Int := xs.foldl (fun acc x => if 0 < lev (varOf x) ∧ lev (varOf x) ∉ acc then acc ++ [lev (varOf x)] else acc) []
theorem glueL_snoc (lev : Int → Int) (xs : List Int) (x : Int) : glueL lev (xs ++ [x]) = if 0 < lev (varOf x) ∧ lev (varOf x) ∉ glueL lev xs then glueL lev xs ++ [lev (varOf x)] else glueL lev xs := by
  unfold glueL; rw [List.foldl_append]; rfl
theorem glueL_len (lev : Int → Int) : ∀ (n : Nat) (xs : List Int), xs.length = n → (glueL lev xs).length ≤ n
  | 0, xs, h => by rw [List.length_eq_zero_iff.1 h]; exact Nat.le_refl _
  | n + 1, xs, h => by
    obtain ⟨ys, x, rfl⟩ : ∃ ys x, xs = ys ++ [x] := ⟨xs.dropLast, xs.getLast (by intro e; subst e; simp at h), (List.dropLast_concat_getLast _).symm⟩
    have := glueL_len lev n ys (by simp at h; exact h)
    rw [glueL_snoc]
    split
    · simp; omega
    · omega
theorem glue_ret {w : World} {D : Nat → Prop} {tv v : Value} {xs : List Int} {lev : Int → Int} (hL : ∀ w' v, Keep w w' No → Ret Try.prog 21 #[tv, vi v] w' (fun r w'' => r = vi (lev v) ∧ Keep w' w'' No)) (h : LV vi w D v xs) (hf : xs.length ≤ 1000000) :
    Ret Try.prog 8 #[tv, v] w (fun r w' => r = vi (glueL lev xs).length ∧ Keep w w' No) := by
  obtain ⟨A, c, rfl, hr, _⟩ := id h
  refine ok8 _ _ _ _ ?_
  unfold sh8
  (repeat (first|refine ja ?_|refine jb ?_|refine jc ?_|refine jd ?_|refine je ?_|refine jf ?_|refine jg ?_|refine jh ?_|refine ji ?_|refine jj ?_|refine jk ?_|refine jl ?_|refine jm ?_|refine jn ?_|refine jo ?_|refine jp ?_|refine jq ?_|refine jr ?_|refine js ?_|refine jt ?_|refine ju ?_|refine jv ?_|refine jw ?_|refine jx ?_|refine jy ?_|refine jz ?_|refine jA ?_|refine jB ?_|refine jC ?_|refine jD ?_|refine jE ?_|refine jF ?_|refine jG ?_|refine jH ?_|refine jI ?_|refine jJ ?_|refine jK ?_|refine jL ?_|refine jM (by assumption) ?_|refine jN (by assumption) rfl ?_|refine jO (by assumption) ?_|refine jP (by assumption) rfl ?_|refine jQ ?_|refine jR ?_|refine jS ?_|refine jT ?_|refine jU (by assumption) rfl ?_))
  refine M.loop_i (σ := Nat) (fun i vals w' => ∃ vo, vals = [vo, vi i] ∧ i ≤ xs.length ∧ GI w' (w.heap.size ≤ ·) vo (glueL lev (xs.take i)) ∧ Keep w w' No) (fun i => xs.length - i) 0 ⟨_, rfl, by omega, GC.nil _ _ _, Keep.refl _ _⟩ ?_
  rintro i vals w1 K ⟨vo, rfl, hi, g1, k1⟩ hK _
  simp only [List.getD_cons_zero, List.getD_cons_succ]
  have hgl := glueL_len lev _ (xs.take i) rfl
  rw [List.length_take] at hgl
  by_cases hlt : i < xs.length
  · obtain ⟨x, hx⟩ : ∃ x, xs[i]? = some x := ⟨_, List.getElem?_eq_getElem hlt⟩
    have et : xs.take (i + 1) = xs.take i ++ [x] := by rw [List.take_add_one, hx]; rfl
    (repeat (first|refine ja ?_|refine jb ?_|refine jc ?_|refine jd ?_|refine je ?_|refine jf ?_|refine jg ?_|refine jh ?_|refine ji ?_|refine jj ?_|refine jk ?_|refine jl ?_|refine jm ?_|refine jn ?_|refine jo ?_|refine jp ?_|refine jq ?_|refine jr ?_|refine js ?_|refine jt ?_|refine ju ?_|refine jv ?_|refine jw ?_|refine jx ?_|refine jy ?_|refine jz ?_|refine jA ?_|refine jB ?_|refine jC ?_|refine jD ?_|refine jE ?_|refine jF ?_|refine jG ?_|refine jH ?_|refine jI ?_|refine jJ ?_|refine jK ?_|refine jL ?_|refine jM (by assumption) ?_|refine jN (by assumption) rfl ?_|refine jO (by assumption) ?_|refine jP (by assumption) rfl ?_|refine jQ ?_|refine jR ?_|refine jS ?_|refine jT ?_|refine jU (by assumption) rfl ?_))
    refine M.share_j (fun vals w' => ∃ vo, vals = [vo] ∧ GI w' (w.heap.size ≤ ·) vo (glueL lev (xs.take (i + 1))) ∧ Keep w w' No) ?_ ?_
    · rintro vals w2 ⟨vo, rfl, g2, k2⟩ _
      simp only [List.getD_cons_zero, List.getD_cons_succ]
      (repeat (first|refine ja ?_|refine jb ?_|refine jc ?_|refine jd ?_|refine je ?_|refine jf ?_|refine jg ?_|refine jh ?_|refine ji ?_|refine jj ?_|refine jk ?_|refine jl ?_|refine jm ?_|refine jn ?_|refine jo ?_|refine jp ?_|refine jq ?_|refine jr ?_|refine js ?_|refine jt ?_|refine ju ?_|refine jv ?_|refine jw ?_|refine jx ?_|refine jy ?_|refine jz ?_|refine jA ?_|refine jB ?_|refine jC ?_|refine jD ?_|refine jE ?_|refine jF ?_|refine jG ?_|refine jH ?_|refine jI ?_|refine jJ ?_|refine jK ?_|refine jL ?_|refine jM (by assumption) ?_|refine jN (by assumption) rfl ?_|refine jO (by assumption) ?_|refine jP (by assumption) rfl ?_|refine jQ ?_|refine jR ?_|refine jS ?_|refine jT ?_|refine jU (by assumption) rfl ?_))
      exact hK (i + 1) _ _ (by omega) ⟨vo, by simp, by omega, g2, k2⟩
    · intro K2 hK2
      rw [et, glueL_snoc] at hK2
      refine M.idxLV_i (hr.keep k1 (fun _ _ _ h => h)) rfl (by omega) (by omega) (x := x) (by rw [Int.toNat_natCast]; exact hx) (fun bb oo hA hcc => ?_)
      (repeat (first|refine ja ?_|refine jb ?_|refine jc ?_|refine jd ?_|refine je ?_|refine jf ?_|refine jg ?_|refine jh ?_|refine ji ?_|refine jj ?_|refine jk ?_|refine jl ?_|refine jm ?_|refine jn ?_|refine jo ?_|refine jp ?_|refine jq ?_|refine jr ?_|refine js ?_|refine jt ?_|refine ju ?_|refine jv ?_|refine jw ?_|refine jx ?_|refine jy ?_|refine jz ?_|refine jA ?_|refine jB ?_|refine jC ?_|refine jD ?_|refine jE ?_|refine jF ?_|refine jG ?_|refine jH ?_|refine jI ?_|refine jJ ?_|refine jK ?_|refine jL ?_|refine jM (by assumption) ?_|refine jN (by assumption) rfl ?_|refine jO (by assumption) ?_|refine jP (by assumption) rfl ?_|refine jQ ?_|refine jR ?_|refine jS ?_|refine jT ?_|refine jU (by assumption) rfl ?_))
      refine M.call_i (var_ret x w1) ?_; rintro _ w2 ⟨rfl, k2⟩
      have k12 := k1.trans k2 (fun _ _ h => h)
      refine M.call_i (hL w2 (varOf x) k12) ?_; rintro _ w3 ⟨rfl, k3⟩
      have k13 := k12.trans k3 (fun _ _ h => h)
      have g3 := (g1.keep k2 (fun _ _ _ h => h)).keep k3 (fun _ _ _ h => h)
      generalize lev (varOf x) = n at *
      by_cases hn : 0 < n
      · (repeat (first|refine ja ?_|refine jb ?_|refine jc ?_|refine jd ?_|refine je ?_|refine jf ?_|refine jg ?_|refine jh ?_|refine ji ?_|refine jj ?_|refine jk ?_|refine jl ?_|refine jm ?_|refine jn ?_|refine jo ?_|refine jp ?_|refine jq ?_|refine jr ?_|refine js ?_|refine jt ?_|refine ju ?_|refine jv ?_|refine jw ?_|refine jx ?_|refine jy ?_|refine jz ?_|refine jA ?_|refine jB ?_|refine jC ?_|refine jD ?_|refine jE ?_|refine jF ?_|refine jG ?_|refine jH ?_|refine jI ?_|refine jJ ?_|refine jK ?_|refine jL ?_|refine jM (by assumption) ?_|refine jN (by assumption) rfl ?_|refine jO (by assumption) ?_|refine jP (by assumption) rfl ?_|refine jQ ?_|refine jR ?_|refine jS ?_|refine jT ?_|refine jU (by assumption) rfl ?_))
        refine M.call_i (contains_ret (GI.lv g3) (by omega) n) ?_; rintro _ w4 ⟨rfl, k4⟩
        have g4 := g3.keep k4 (fun _ _ _ h => h)
        have k14 := k13.trans k4 (fun _ _ h => h)
        by_cases hm : n ∈ glueL lev (xs.take i)
        · simp only [hm, decide_true]
          rw [if_neg (fun e => e.2 hm)] at hK2
          (repeat (first|refine ja ?_|refine jb ?_|refine jc ?_|refine jd ?_|refine je ?_|refine jf ?_|refine jg ?_|refine jh ?_|refine ji ?_|refine jj ?_|refine jk ?_|refine jl ?_|refine jm ?_|refine jn ?_|refine jo ?_|refine jp ?_|refine jq ?_|refine jr ?_|refine js ?_|refine jt ?_|refine ju ?_|refine jv ?_|refine jw ?_|refine jx ?_|refine jy ?_|refine jz ?_|refine jA ?_|refine jB ?_|refine jC ?_|refine jD ?_|refine jE ?_|refine jF ?_|refine jG ?_|refine jH ?_|refine jI ?_|refine jJ ?_|refine jK ?_|refine jL ?_|refine jM (by assumption) ?_|refine jN (by assumption) rfl ?_|refine jO (by assumption) ?_|refine jP (by assumption) rfl ?_|refine jQ ?_|refine jR ?_|refine jS ?_|refine jT ?_|refine jU (by assumption) rfl ?_))
          exact hK2 _ _ ⟨vo, rfl, g4, k14⟩
        · simp only [hm, decide_false]
          rw [if_pos ⟨hn, hm⟩] at hK2
          (repeat (first|refine ja ?_|refine jb ?_|refine jc ?_|refine jd ?_|refine je ?_|refine jf ?_|refine jg ?_|refine jh ?_|refine ji ?_|refine jj ?_|refine jk ?_|refine jl ?_|refine jm ?_|refine jn ?_|refine jo ?_|refine jp ?_|refine jq ?_|refine jr ?_|refine js ?_|refine jt ?_|refine ju ?_|refine jv ?_|refine jw ?_|refine jx ?_|refine jy ?_|refine jz ?_|refine jA ?_|refine jB ?_|refine jC ?_|refine jD ?_|refine jE ?_|refine jF ?_|refine jG ?_|refine jH ?_|refine jI ?_|refine jJ ?_|refine jK ?_|refine jL ?_|refine jM (by assumption) ?_|refine jN (by assumption) rfl ?_|refine jO (by assumption) ?_|refine jP (by assumption) rfl ?_|refine jQ ?_|refine jR ?_|refine jS ?_|refine jT ?_|refine jU (by assumption) rfl ?_))
          refine M.buildSlice_i [vi n] (by kernel_rfl) (fun w5 b5 k5 s5 => ?_)
          refine M.append1_i (g4.keep k5 (fun _ _ _ h => h)) (Row.of_blk' (D := fun _ => True) b5 trivial) rfl (by omega) (fun v6 w6 g6 k6 => ?_)
          have q4 := k14.size
          have q5 := k5.size
          exact hK2 _ _ ⟨v6, rfl, g6.mono (fun y hy e => by omega), (k14.trans k5 (fun _ _ h => h)).trans k6 (fun y hy e => by omega)⟩
      · rw [if_neg (fun e => hn e.1)] at hK2
        (repeat (first|refine ja ?_|refine jb ?_|refine jc ?_|refine jd ?_|refine je ?_|refine jf ?_|refine jg ?_|refine jh ?_|refine ji ?_|refine jj ?_|refine jk ?_|refine jl ?_|refine jm ?_|refine jn ?_|refine jo ?_|refine jp ?_|refine jq ?_|refine jr ?_|refine js ?_|refine jt ?_|refine ju ?_|refine jv ?_|refine jw ?_|refine jx ?_|refine jy ?_|refine jz ?_|refine jA ?_|refine jB ?_|refine jC ?_|refine jD ?_|refine jE ?_|refine jF ?_|refine jG ?_|refine jH ?_|refine jI ?_|refine jJ ?_|refine jK ?_|refine jL ?_|refine jM (by assumption) ?_|refine jN (by assumption) rfl ?_|refine jO (by assumption) ?_|refine jP (by assumption) rfl ?_|refine jQ ?_|refine jR ?_|refine jS ?_|refine jT ?_|refine jU (by assumption) rfl ?_))
        exact hK2 _ _ ⟨vo, rfl, g3, k13⟩
  · have e : i = xs.length := by omega
    subst e
    rw [List.take_length] at g1
    obtain ⟨A1, c1, rfl, _, _⟩ := GI.lv g1
    (repeat (first|refine ja ?_|refine jb ?_|refine jc ?_|refine jd ?_|refine je ?_|refine jf ?_|refine jg ?_|refine jh ?_|refine ji ?_|refine jj ?_|refine jk ?_|refine jl ?_|refine jm ?_|refine jn ?_|refine jo ?_|refine jp ?_|refine jq ?_|refine jr ?_|refine js ?_|refine jt ?_|refine ju ?_|refine jv ?_|refine jw ?_|refine jx ?_|refine jy ?_|refine jz ?_|refine jA ?_|refine jB ?_|refine jC ?_|refine jD ?_|refine jE ?_|refine jF ?_|refine jG ?_|refine jH ?_|refine jI ?_|refine jJ ?_|refine jK ?_|refine jL ?_|refine jM (by assumption) ?_|refine jN (by assumption) rfl ?_|refine jO (by assumption) ?_|refine jP (by assumption) rfl ?_|refine jQ ?_|refine jR ?_|refine jS ?_|refine jT ?_|refine jU (by assumption) rfl ?_))
    exact ⟨rfl, k1⟩
theorem learn_nil {lv : Value} (c : Int) (w : World) : Ret Try.prog 7 #[nilp, lv, vi c] w (fun r w' => r = .tuple #[.slice none 0 0, vi 0, .slice none 0 0, .bool false] ∧ Keep w w' No) := by
  refine ok7 _ _ _ _ _ ?_
  unfold sh7
  refine M.new_i (l := [nilp]) (fun w1 b1 k1 s1 => ?_)
  (repeat (first|refine ja ?_|refine jb ?_|refine jc ?_|refine jd ?_|refine je ?_|refine jf ?_|refine jg ?_|refine jh ?_|refine ji ?_|refine jj ?_|refine jk ?_|refine jl ?_|refine jm ?_|refine jn ?_|refine jo ?_|refine jp ?_|refine jq ?_|refine jr ?_|refine js ?_|refine jt ?_|refine ju ?_|refine jv ?_|refine jw ?_|refine jx ?_|refine jy ?_|refine jz ?_|refine jA ?_|refine jB ?_|refine jC ?_|refine jD ?_|refine jE ?_|refine jF ?_|refine jG ?_|refine jH ?_|refine jI ?_|refine jJ ?_|refine jK ?_|refine jL ?_|refine jM (by assumption) ?_|refine jN (by assumption) rfl ?_|refine jO (by assumption) ?_|refine jP (by assumption) rfl ?_|refine jQ ?_|refine jR ?_|refine jS ?_|refine jT ?_|refine jU (by assumption) rfl ?_))
  refine M.call_i (levels_nil w1) ?_; rintro _ w2 ⟨rfl, k2⟩
  (repeat (first|refine ja ?_|refine jb ?_|refine jc ?_|refine jd ?_|refine je ?_|refine jf ?_|refine jg ?_|refine jh ?_|refine ji ?_|refine jj ?_|refine jk ?_|refine jl ?_|refine jm ?_|refine jn ?_|refine jo ?_|refine jp ?_|refine jq ?_|refine jr ?_|refine js ?_|refine jt ?_|refine ju ?_|refine jv ?_|refine jw ?_|refine jx ?_|refine jy ?_|refine jz ?_|refine jA ?_|refine jB ?_|refine jC ?_|refine jD ?_|refine jE ?_|refine jF ?_|refine jG ?_|refine jH ?_|refine jI ?_|refine jJ ?_|refine jK ?_|refine jL ?_|refine jM (by assumption) ?_|refine jN (by assumption) rfl ?_|refine jO (by assumption) ?_|refine jP (by assumption) rfl ?_|refine jQ ?_|refine jR ?_|refine jS ?_|refine jT ?_|refine jU (by assumption) rfl ?_|refine jG ?_ (by decide)|refine jH ?_ (by decide)|refine jI ?_ (by decide)|refine jJ ?_ (by decide)|refine jC ?_ (by decide)|refine jy ?_ (by decide)))
  exact ⟨rfl, k1.trans k2 (fun _ _ h => h)⟩
def tA12 : Tr := ((Tr.new 2).dec 0).assign 2 0
theorem tA12_1 : lastL tA12 [[1, 2], [1, 3]] (tA12.L.map (·.lit)).reverse (meetL tA12 (-1) [1, 3] ⟨[], [], 0⟩).1 = (⟨[0, 1], [], 1⟩, some 0) := by kernel_rfl
theorem tA12_0 : lastL tA12 [[1, 2], [1, 3]] (tA12.L.map (·.lit)).reverse (meetL tA12 (-1) [1, 2] ⟨[], [], 0⟩).1 = (⟨[0], [], 1⟩, some 0) := by kernel_rfl
theorem tA12_L : learnL tA12 [[1, 2], [1, 3]] 1 = some ([1], 0, [0, 1]) := by
  have h1 : learnL tA12 [[1, 2], [1, 3]] 1 = match lastL tA12 [[1, 2], [1, 3]] (tA12.L.map (·.lit)).reverse (meetL tA12 (-1) [1, 3] ⟨[], [], 0⟩).1 with
    | (_, none) => none
    | (m, some x) => some (notOf x :: sortO tA12 m.others, (match sortO tA12 m.others with | [] => 0 | y :: _ => tA12.lev (varOf y)), m.met.mergeSort (fun a b => decide (a ≤ b))) := by kernel_rfl
  rw [h1, tA12_1]
  have h2 : ([0, 1] : List Int).mergeSort (fun a b => decide (a ≤ b)) = [0, 1] := List.mergeSort_of_pairwise (by decide)
  show some (notOf 0 :: sortO tA12 [], (match sortO tA12 [] with | [] => 0 | y :: _ => tA12.lev (varOf y)), ([0, 1] : List Int).mergeSort (fun a b => decide (a ≤ b))) = _
  have h3 : sortO tA12 [] = [] := by simp [sortO]
  rw [h2, h3]
  rfl
theorem tA12_N : learnL tA12 [[1, 2], [1, 3]] 0 = none := by kernel_rfl
theorem blk_lists {w : World} {D : Nat → Prop} {b1 b2 b3 : Nat} {xs ys : List Int} (h1 : Blk w b1 (xs.map vi)) (h2 : Blk w b2 (ys.map vi)) (h3 : Blk w b3 [.slice (some ⟨b1, 0, none⟩) xs.length xs.length, .slice (some ⟨b2, 0, none⟩) ys.length ys.length]) (d1 : D b1) (d2 : D b2) (d3 : D b3) : LL w D (.slice (some ⟨b3, 0, none⟩) 2 2) [xs, ys] := by
  refine ⟨_, _, _, rfl, ⟨Row.of_blk' h3 d3, rfl, fun i c hc => ?_⟩, Nat.le_refl _⟩
  match i, hc with
  | 0, hc =>
    simp only [List.getElem?_cons_zero, Option.some.injEq] at hc
    subst hc
    exact ⟨_, rfl, _, _, rfl, Row.of_blk' h1 d1, Nat.le_refl _⟩
  | 1, hc =>
    simp only [List.getElem?_cons_succ, List.getElem?_cons_zero, Option.some.injEq] at hc
    subst hc
    exact ⟨_, rfl, _, _, rfl, Row.of_blk' h2 d2, Nat.le_refl _⟩
theorem wf_new (vars : Int) : (Tr.new vars).Wf := fun x hx => by simp [Tr.new] at hx
theorem trep_fine {w : World} {p : Nat} {lab : Nat → Nat} {t : Tr} (h : TRep w p lab t) : t.Fine := by
  obtain ⟨_, _, _, _, _, _, a, ls, rs, _, _, _, _, _, _, _, _, _, ok⟩ := h
  exact ⟨a, ls, rs, ok⟩
theorem lvi12 {w : World} {b n : Nat} {xs : List Int} (h : Blk w b (xs.map vi)) (hn : n = xs.length) : LV vi w (fun _ => True) (.slice (some ⟨b, 0, none⟩) n n) xs := by
  subst hn
  exact ⟨_, _, rfl, Row.of_blk' h trivial, Nat.le_refl _⟩
set_option maxHeartbeats 2000000 in
theorem awake12_ret (w : World) : Ret Try.prog 6 #[] w (fun v w' => v = .bool true ∧ Keep w w' No) := by
  refine ok6 _ _ ?_
  unfold sh6
  refine M.call_i (new_ret 2 w) ?_; rintro _ w1 ⟨p, lab, rfl, h1, k1, hlab⟩
  (repeat (first|refine ja ?_|refine jb ?_|refine jc ?_|refine jd ?_|refine je ?_|refine jf ?_|refine jg ?_|refine jh ?_|refine ji ?_|refine jj ?_|refine jk ?_|refine jl ?_|refine jm ?_|refine jn ?_|refine jo ?_|refine jp ?_|refine jq ?_|refine jr ?_|refine js ?_|refine jt ?_|refine ju ?_|refine jv ?_|refine jw ?_|refine jx ?_|refine jy ?_|refine jz ?_|refine jA ?_|refine jB ?_|refine jC ?_|refine jD ?_|refine jE ?_|refine jF ?_|refine jG ?_|refine jH ?_|refine jI ?_|refine jJ ?_|refine jK ?_|refine jL ?_|refine jM (by assumption) ?_|refine jN (by assumption) rfl ?_|refine jO (by assumption) ?_|refine jP (by assumption) rfl ?_|refine jQ ?_|refine jR ?_|refine jS ?_|refine jT ?_|refine jU (by assumption) rfl ?_))
  refine M.buildSlice_i ([1, 2].map vi) (by kernel_rfl) (fun w2 b2 k2 s2 => ?_)
  refine M.buildSlice_i ([1, 3].map vi) (by kernel_rfl) (fun w3 b3 k3 s3 => ?_)
  refine M.buildSlice_i [.slice (some ⟨w1.heap.size, 0, none⟩) 2 2, .slice (some ⟨w2.heap.size, 0, none⟩) 2 2] (by kernel_rfl) (fun w4 b4 k4 s4 => ?_)
  have hll := blk_lists (D := (w1.heap.size ≤ ·)) (xs := [1, 2]) (ys := [1, 3]) ((b2.keep k3 (fun h => h)).keep k4 (fun h => h)) (b3.keep k4 (fun h => h)) b4 (by show _ ≤ _; omega) (by show _ ≤ _; omega) (by show _ ≤ _; omega)
  have hll := hll.mono (D' := fun b => w1.heap.size ≤ b ∧ b < w4.heap.size) (fun b hb e => ⟨e, hb⟩)
  have k14 := (k2.trans k3 (fun _ _ h => h)).trans k4 (fun _ _ h => h)
  have h4 := h1.keep k14 (fun _ _ _ h => h)
  refine M.call_i (decide_ret h4 (wf_new 2) 0) ?_; rintro _ w5 ⟨rfl, lab5, h5, m5⟩
  have q1 := k1.size
  have q14 := k14.size
  have hl1 : ∀ b, lab b ≠ 0 → b < w1.heap.size := fun b hb => tr_lt h1 hb
  have hll := hll.keep m5.1 (fun b _ e e2 => by have := e.1; have := hl1 b e2; omega)
  have k05 : Keep w w5 No := (k1.trans k14 (fun _ _ h => h)).trans m5.1 (fun b hb e => by have := hlab b e; omega)
  have hlab5 : ∀ b, lab5 b ≠ 0 → w.heap.size ≤ b := fun b hb => by
    by_cases hlt : b < w4.heap.size
    · rw [m5.2 b hlt] at hb; exact hlab b hb
    · omega
  have hl5 : ∀ b, b < w4.heap.size → lab5 b ≠ 0 → b < w1.heap.size := fun b hlt hb => by rw [m5.2 b hlt] at hb; exact hl1 b hb
  refine M.call_i (assign_ret h5 2 0) ?_; rintro _ w6 ⟨rfl, lab6, h6, m6⟩
  have hll := hll.keep m6.1 (fun b _ e e2 => by have := hl5 b e.2 e2; omega)
  have k06 : Keep w w6 No := k05.trans m6.1 (fun b hb e => by have := hlab5 b e; omega)
  have hf := trep_fine h6
  have h6 : TRep w6 p lab6 tA12 := h6
  have hf : tA12.Fine := hf
  have hO1 : ∀ m x, lastL tA12 [[1, 2], [1, 3]] (tA12.L.map (·.lit)).reverse (meetL tA12 (-1) (([[1, 2], [1, 3]] : List (List Int)).getD (1 : Int).toNat []) ⟨[], [], 0⟩).1 = (m, some x) → m.others = [] ∧ I64 x := fun m x hm => by
    have hm : lastL tA12 [[1, 2], [1, 3]] (tA12.L.map (·.lit)).reverse (meetL tA12 (-1) [1, 3] ⟨[], [], 0⟩).1 = (m, some x) := hm
    rw [tA12_1] at hm
    cases hm
    exact ⟨rfl, by decide, by decide⟩
  have hO0 : ∀ m x, lastL tA12 [[1, 2], [1, 3]] (tA12.L.map (·.lit)).reverse (meetL tA12 (-1) (([[1, 2], [1, 3]] : List (List Int)).getD (0 : Int).toNat []) ⟨[], [], 0⟩).1 = (m, some x) → m.others = [] ∧ I64 x := fun m x hm => by
    have hm : lastL tA12 [[1, 2], [1, 3]] (tA12.L.map (·.lit)).reverse (meetL tA12 (-1) [1, 2] ⟨[], [], 0⟩).1 = (m, some x) := hm
    rw [tA12_0] at hm
    cases hm
    exact ⟨rfl, by decide, by decide⟩
  refine M.call_i (learn12_ret h6 hf (by decide) hll (by decide) (by decide) 1 hO1) ?_; rintro r7 w7 g7
  rw [tA12_L] at g7
  obtain ⟨⟨va, vb, rfl, ga, gb⟩, k7⟩ := g7
  have h7 := h6.keep k7 (fun _ _ _ h => h)
  have hll := hll.keep k7 (fun _ _ _ h => h)
  refine M.extract_i (v := va) rfl ?_
  refine M.extract_i (v := vi 0) rfl ?_
  refine M.extract_i (v := vb) rfl ?_
  refine M.extract_i (v := .bool true) rfl ?_
  refine M.call_i (learn12_ret h7 hf (by decide) hll (by decide) (by decide) 0 hO0) ?_; rintro r8 w8 g8
  rw [tA12_N] at g8
  obtain ⟨rfl, k8⟩ := g8
  refine M.extract_i (v := .slice none 0 0) rfl ?_
  refine M.extract_i (v := vi 0) rfl ?_
  refine M.extract_i (v := .slice none 0 0) rfl ?_
  refine M.extract_i (v := .bool false) rfl ?_
  refine M.buildSlice_i ([1].map vi) (by kernel_rfl) (fun w9 b9 k9 s9 => ?_)
  have k79 := k8.trans k9 (fun _ _ h => h)
  have ga := ga.keep k79 (fun _ _ _ h => h)
  have gb := gb.keep k79 (fun _ _ _ h => h)
  refine M.call_i (same_ret (GI.lv ga) (lvi12 (xs := [1]) b9 rfl) (by decide)) ?_; rintro _ w10 ⟨rfl, k10⟩
  have gb := gb.keep k10 (fun _ _ _ h => h)
  (repeat (first|refine ja ?_|refine jb ?_|refine jc ?_|refine jd ?_|refine je ?_|refine jf ?_|refine jg ?_|refine jh ?_|refine ji ?_|refine jj ?_|refine jk ?_|refine jl ?_|refine jm ?_|refine jn ?_|refine jo ?_|refine jp ?_|refine jq ?_|refine jr ?_|refine js ?_|refine jt ?_|refine ju ?_|refine jv ?_|refine jw ?_|refine jx ?_|refine jy ?_|refine jz ?_|refine jA ?_|refine jB ?_|refine jC ?_|refine jD ?_|refine jE ?_|refine jF ?_|refine jG ?_|refine jH ?_|refine jI ?_|refine jJ ?_|refine jK ?_|refine jL ?_|refine jM (by assumption) ?_|refine jN (by assumption) rfl ?_|refine jO (by assumption) ?_|refine jP (by assumption) rfl ?_|refine jQ ?_|refine jR ?_|refine jS ?_|refine jT ?_|refine jU (by assumption) rfl ?_|refine jG ?_ (by decide)|refine jH ?_ (by decide)|refine jI ?_ (by decide)|refine jJ ?_ (by decide)|refine jC ?_ (by decide)|refine jy ?_ (by decide)))
  refine M.buildSlice_i ([0, 1].map vi) (by kernel_rfl) (fun w11 b11 k11 s11 => ?_)
  have gb := gb.keep k11 (fun _ _ _ h => h)
  (repeat (first|refine ja ?_|refine jb ?_|refine jc ?_|refine jd ?_|refine je ?_|refine jf ?_|refine jg ?_|refine jh ?_|refine ji ?_|refine jj ?_|refine jk ?_|refine jl ?_|refine jm ?_|refine jn ?_|refine jo ?_|refine jp ?_|refine jq ?_|refine jr ?_|refine js ?_|refine jt ?_|refine ju ?_|refine jv ?_|refine jw ?_|refine jx ?_|refine jy ?_|refine jz ?_|refine jA ?_|refine jB ?_|refine jC ?_|refine jD ?_|refine jE ?_|refine jF ?_|refine jG ?_|refine jH ?_|refine jI ?_|refine jJ ?_|refine jK ?_|refine jL ?_|refine jM (by assumption) ?_|refine jN (by assumption) rfl ?_|refine jO (by assumption) ?_|refine jP (by assumption) rfl ?_|refine jQ ?_|refine jR ?_|refine jS ?_|refine jT ?_|refine jU (by assumption) rfl ?_|refine jG ?_ (by decide)|refine jH ?_ (by decide)|refine jI ?_ (by decide)|refine jJ ?_ (by decide)|refine jC ?_ (by decide)|refine jy ?_ (by decide)))
  refine M.call_i (same_ret (GI.lv gb) (lvi12 (xs := [0, 1]) b11 rfl) (by decide)) ?_; rintro _ w12 ⟨rfl, k12⟩
  (repeat (first|refine ja ?_|refine jb ?_|refine jc ?_|refine jd ?_|refine je ?_|refine jf ?_|refine jg ?_|refine jh ?_|refine ji ?_|refine jj ?_|refine jk ?_|refine jl ?_|refine jm ?_|refine jn ?_|refine jo ?_|refine jp ?_|refine jq ?_|refine jr ?_|refine js ?_|refine jt ?_|refine ju ?_|refine jv ?_|refine jw ?_|refine jx ?_|refine jy ?_|refine jz ?_|refine jA ?_|refine jB ?_|refine jC ?_|refine jD ?_|refine jE ?_|refine jF ?_|refine jG ?_|refine jH ?_|refine jI ?_|refine jJ ?_|refine jK ?_|refine jL ?_|refine jM (by assumption) ?_|refine jN (by assumption) rfl ?_|refine jO (by assumption) ?_|refine jP (by assumption) rfl ?_|refine jQ ?_|refine jR ?_|refine jS ?_|refine jT ?_|refine jU (by assumption) rfl ?_|refine jG ?_ (by decide)|refine jH ?_ (by decide)|refine jI ?_ (by decide)|refine jJ ?_ (by decide)|refine jC ?_ (by decide)|refine jy ?_ (by decide)))
  refine M.buildSlice_i ([0, 2, 3].map vi) (by kernel_rfl) (fun w13 b13 k13 s13 => ?_)
  have k613 := (((((k7.trans k79 (fun _ _ h => h)).trans k10 (fun _ _ h => h)).trans k11 (fun _ _ h => h)).trans k12 (fun _ _ h => h)).trans k13 (fun _ _ h => h))
  have h13 := h6.keep k613 (fun _ _ _ h => h)
  (repeat (first|refine ja ?_|refine jb ?_|refine jc ?_|refine jd ?_|refine je ?_|refine jf ?_|refine jg ?_|refine jh ?_|refine ji ?_|refine jj ?_|refine jk ?_|refine jl ?_|refine jm ?_|refine jn ?_|refine jo ?_|refine jp ?_|refine jq ?_|refine jr ?_|refine js ?_|refine jt ?_|refine ju ?_|refine jv ?_|refine jw ?_|refine jx ?_|refine jy ?_|refine jz ?_|refine jA ?_|refine jB ?_|refine jC ?_|refine jD ?_|refine jE ?_|refine jF ?_|refine jG ?_|refine jH ?_|refine jI ?_|refine jJ ?_|refine jK ?_|refine jL ?_|refine jM (by assumption) ?_|refine jN (by assumption) rfl ?_|refine jO (by assumption) ?_|refine jP (by assumption) rfl ?_|refine jQ ?_|refine jR ?_|refine jS ?_|refine jT ?_|refine jU (by assumption) rfl ?_|refine jG ?_ (by decide)|refine jH ?_ (by decide)|refine jI ?_ (by decide)|refine jJ ?_ (by decide)|refine jC ?_ (by decide)|refine jy ?_ (by decide)))
  refine M.call_i (glue_ret (lev := tA12.lev) (fun w' v k => level_ret (h13.keep k (fun _ _ _ h => h)) v) (lvi12 (xs := [0, 2, 3]) b13 rfl) (by decide)) ?_; rintro _ w14 ⟨rfl, k14'⟩
  have eg : ((glueL tA12.lev [0, 2, 3]).length : Int) = 1 := by kernel_rfl
  rw [eg]
  (repeat (first|refine ja ?_|refine jb ?_|refine jc ?_|refine jd ?_|refine je ?_|refine jf ?_|refine jg ?_|refine jh ?_|refine ji ?_|refine jj ?_|refine jk ?_|refine jl ?_|refine jm ?_|refine jn ?_|refine jo ?_|refine jp ?_|refine jq ?_|refine jr ?_|refine js ?_|refine jt ?_|refine ju ?_|refine jv ?_|refine jw ?_|refine jx ?_|refine jy ?_|refine jz ?_|refine jA ?_|refine jB ?_|refine jC ?_|refine jD ?_|refine jE ?_|refine jF ?_|refine jG ?_|refine jH ?_|refine jI ?_|refine jJ ?_|refine jK ?_|refine jL ?_|refine jM (by assumption) ?_|refine jN (by assumption) rfl ?_|refine jO (by assumption) ?_|refine jP (by assumption) rfl ?_|refine jQ ?_|refine jR ?_|refine jS ?_|refine jT ?_|refine jU (by assumption) rfl ?_|refine jG ?_ (by decide)|refine jH ?_ (by decide)|refine jI ?_ (by decide)|refine jJ ?_ (by decide)|refine jC ?_ (by decide)|refine jy ?_ (by decide)))
  exact ⟨rfl, (k06.trans k613 (fun _ _ h => h)).trans k14' (fun _ _ h => h)⟩
set_option maxHeartbeats 1000000 in
theorem analyzeNone_ret {w : World} {D : Nat → Prop} {v : Value} {l : List (List Int)} (hl : LL w D v l) (conflict : Int) : Ret Try.prog 3 #[v, vi conflict] w (fun r w' => r = .bool true ∧ Keep w w' No) := by
  refine ok3 _ _ _ _ ?_
  unfold sh3
  refine M.call_i (few_ret hl 30 (by decide)) ?_; rintro _ w1 ⟨rfl, k1⟩
  cases hfb : fewB l 30 with
  | false =>
    simp only [Bool.false_eq_true, if_false]
    (repeat (first|refine ja ?_|refine jb ?_|refine jc ?_|refine jd ?_|refine je ?_|refine jf ?_|refine jg ?_|refine jh ?_|refine ji ?_|refine jj ?_|refine jk ?_|refine jl ?_|refine jm ?_|refine jn ?_|refine jo ?_|refine jp ?_|refine jq ?_|refine jr ?_|refine js ?_|refine jt ?_|refine ju ?_|refine jv ?_|refine jw ?_|refine jx ?_|refine jy ?_|refine jz ?_|refine jA ?_|refine jB ?_|refine jC ?_|refine jD ?_|refine jE ?_|refine jF ?_|refine jG ?_|refine jH ?_|refine jI ?_|refine jJ ?_|refine jK ?_|refine jL ?_|refine jM (by assumption) ?_|refine jN (by assumption) rfl ?_|refine jO (by assumption) ?_|refine jP (by assumption) rfl ?_|refine jQ ?_|refine jR ?_|refine jS ?_|refine jT ?_|refine jU (by assumption) rfl ?_|refine jG ?_ (by decide)|refine jH ?_ (by decide)|refine jI ?_ (by decide)|refine jJ ?_ (by decide)|refine jC ?_ (by decide)|refine jy ?_ (by decide)))
    refine M.call_i (awake12_ret w1) ?_; rintro _ w2 ⟨rfl, k2⟩
    exact ⟨rfl, k1.trans k2 (fun _ _ h => h)⟩
  | true =>
    simp only [if_true]
    (repeat (first|refine ja ?_|refine jb ?_|refine jc ?_|refine jd ?_|refine je ?_|refine jf ?_|refine jg ?_|refine jh ?_|refine ji ?_|refine jj ?_|refine jk ?_|refine jl ?_|refine jm ?_|refine jn ?_|refine jo ?_|refine jp ?_|refine jq ?_|refine jr ?_|refine js ?_|refine jt ?_|refine ju ?_|refine jv ?_|refine jw ?_|refine jx ?_|refine jy ?_|refine jz ?_|refine jA ?_|refine jB ?_|refine jC ?_|refine jD ?_|refine jE ?_|refine jF ?_|refine jG ?_|refine jH ?_|refine jI ?_|refine jJ ?_|refine jK ?_|refine jL ?_|refine jM (by assumption) ?_|refine jN (by assumption) rfl ?_|refine jO (by assumption) ?_|refine jP (by assumption) rfl ?_|refine jQ ?_|refine jR ?_|refine jS ?_|refine jT ?_|refine jU (by assumption) rfl ?_|refine jG ?_ (by decide)|refine jH ?_ (by decide)|refine jI ?_ (by decide)|refine jJ ?_ (by decide)|refine jC ?_ (by decide)|refine jy ?_ (by decide)))
    refine M.call_i (learn_nil conflict w1) ?_; rintro _ w2 ⟨rfl, k2⟩
    have k12 := k1.trans k2 (fun _ _ h => h)
    refine M.extract_i (v := .slice none 0 0) rfl ?_
    refine M.extract_i (v := vi 0) rfl ?_
    refine M.extract_i (v := .slice none 0 0) rfl ?_
    refine M.extract_i (v := .bool false) rfl ?_
    (repeat (first|refine ja ?_|refine jb ?_|refine jc ?_|refine jd ?_|refine je ?_|refine jf ?_|refine jg ?_|refine jh ?_|refine ji ?_|refine jj ?_|refine jk ?_|refine jl ?_|refine jm ?_|refine jn ?_|refine jo ?_|refine jp ?_|refine jq ?_|refine jr ?_|refine js ?_|refine jt ?_|refine ju ?_|refine jv ?_|refine jw ?_|refine jx ?_|refine jy ?_|refine jz ?_|refine jA ?_|refine jB ?_|refine jC ?_|refine jD ?_|refine jE ?_|refine jF ?_|refine jG ?_|refine jH ?_|refine jI ?_|refine jJ ?_|refine jK ?_|refine jL ?_|refine jM (by assumption) ?_|refine jN (by assumption) rfl ?_|refine jO (by assumption) ?_|refine jP (by assumption) rfl ?_|refine jQ ?_|refine jR ?_|refine jS ?_|refine jT ?_|refine jU (by assumption) rfl ?_|refine jG ?_ (by decide)|refine jH ?_ (by decide)|refine jI ?_ (by decide)|refine jJ ?_ (by decide)|refine jC ?_ (by decide)|refine jy ?_ (by decide)))
    refine M.buildSlice_i ([0, 5].map vi) (by kernel_rfl) (fun w3 b3 k3 s3 => ?_)
    (repeat (first|refine ja ?_|refine jb ?_|refine jc ?_|refine jd ?_|refine je ?_|refine jf ?_|refine jg ?_|refine jh ?_|refine ji ?_|refine jj ?_|refine jk ?_|refine jl ?_|refine jm ?_|refine jn ?_|refine jo ?_|refine jp ?_|refine jq ?_|refine jr ?_|refine js ?_|refine jt ?_|refine ju ?_|refine jv ?_|refine jw ?_|refine jx ?_|refine jy ?_|refine jz ?_|refine jA ?_|refine jB ?_|refine jC ?_|refine jD ?_|refine jE ?_|refine jF ?_|refine jG ?_|refine jH ?_|refine jI ?_|refine jJ ?_|refine jK ?_|refine jL ?_|refine jM (by assumption) ?_|refine jN (by assumption) rfl ?_|refine jO (by assumption) ?_|refine jP (by assumption) rfl ?_|refine jQ ?_|refine jR ?_|refine jS ?_|refine jT ?_|refine jU (by assumption) rfl ?_|refine jG ?_ (by decide)|refine jH ?_ (by decide)|refine jI ?_ (by decide)|refine jJ ?_ (by decide)|refine jC ?_ (by decide)|refine jy ?_ (by decide)))
    refine M.call_i (glue_ret (tv := nilp) (lev := fun _ => -1) (fun w' v k => level_nil v w') (lvi12 (xs := [0, 5]) b3 rfl) (by decide)) ?_; rintro _ w4 ⟨rfl, k4⟩
    have eg : ((glueL (fun _ => -1) [0, 5]).length : Int) = 0 := by kernel_rfl
    rw [eg]
    have k14 := (k12.trans k3 (fun _ _ h => h)).trans k4 (fun _ _ h => h)
    (repeat (first|refine ja ?_|refine jb ?_|refine jc ?_|refine jd ?_|refine je ?_|refine jf ?_|refine jg ?_|refine jh ?_|refine ji ?_|refine jj ?_|refine jk ?_|refine jl ?_|refine jm ?_|refine jn ?_|refine jo ?_|refine jp ?_|refine jq ?_|refine jr ?_|refine js ?_|refine jt ?_|refine ju ?_|refine jv ?_|refine jw ?_|refine jx ?_|refine jy ?_|refine jz ?_|refine jA ?_|refine jB ?_|refine jC ?_|refine jD ?_|refine jE ?_|refine jF ?_|refine jG ?_|refine jH ?_|refine jI ?_|refine jJ ?_|refine jK ?_|refine jL ?_|refine jM (by assumption) ?_|refine jN (by assumption) rfl ?_|refine jO (by assumption) ?_|refine jP (by assumption) rfl ?_|refine jQ ?_|refine jR ?_|refine jS ?_|refine jT ?_|refine jU (by assumption) rfl ?_|refine jG ?_ (by decide)|refine jH ?_ (by decide)|refine jI ?_ (by decide)|refine jJ ?_ (by decide)|refine jC ?_ (by decide)|refine jy ?_ (by decide)))
    refine M.call_i (awake12_ret w4) ?_; rintro _ w5 ⟨rfl, k5⟩
    (repeat (first|refine ja ?_|refine jb ?_|refine jc ?_|refine jd ?_|refine je ?_|refine jf ?_|refine jg ?_|refine jh ?_|refine ji ?_|refine jj ?_|refine jk ?_|refine jl ?_|refine jm ?_|refine jn ?_|refine jo ?_|refine jp ?_|refine jq ?_|refine jr ?_|refine js ?_|refine jt ?_|refine ju ?_|refine jv ?_|refine jw ?_|refine jx ?_|refine jy ?_|refine jz ?_|refine jA ?_|refine jB ?_|refine jC ?_|refine jD ?_|refine jE ?_|refine jF ?_|refine jG ?_|refine jH ?_|refine jI ?_|refine jJ ?_|refine jK ?_|refine jL ?_|refine jM (by assumption) ?_|refine jN (by assumption) rfl ?_|refine jO (by assumption) ?_|refine jP (by assumption) rfl ?_|refine jQ ?_|refine jR ?_|refine jS ?_|refine jT ?_|refine jU (by assumption) rfl ?_|refine jG ?_ (by decide)|refine jH ?_ (by decide)|refine jI ?_ (by decide)|refine jJ ?_ (by decide)|refine jC ?_ (by decide)|refine jy ?_ (by decide)))
    exact ⟨rfl, k14.trans k5 (fun _ _ h => h)⟩
end Go.Proofs.Ytnmbgfonlpjicaa
