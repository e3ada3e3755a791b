import Derived.Test.YthkkjjbjpbgcpaaSmt54k
namespace Go.Proofs.Ythkkjjbjpbgcpaa
open Go.Mw Go.Lib
set_option linter.unusedVariables false
set_option linter.unusedSimpArgs false
set_option maxRecDepth 100000
attribute [local irreducible] M.val M.unit M.next M.pick M.new M.nilCheck M.load1 M.loadA M.store M.fieldAddr M.indexSl M.indexArr M.slice M.makeSlice M.buildSlice M.len M.lenS M.cap M.append M.extract M.conv M.not M.neg M.bin M.shift M.eqB M.eqNil M.scat M.call M.callv M.gd M.share M.cond M.loop M.draw pureW readW Ret
/-! breakwater/breakwaterlaw54.SmtlibTerms: function 3 -/
def sh3 (x0 x1 : Value) (R : Kt) (w : World) : Prop :=
  M.len x0 (fun t17 w =>
  M.bin .gtr t17 (Value.int IntKind.i64 60) (fun t18 w =>
  M.cond t18
  (M.call Try.prog 5 #[] (fun t19 w =>
  R t19 w) w)
  (M.call Try.prog 6 #[(Value.int IntKind.i64 1000), x0] (fun t22 w =>
  M.extract 0 t22 (fun t23 w =>
  M.extract 1 t22 (fun t24 w =>
  M.new 27 #[.slice none 0 0, .int .i64 0] (fun t6 w =>
  M.store 2 t6 t24 (fun _ w =>
  M.eqNil 0 false t23 (fun t26 w =>
  M.cond t26
  (R (Value.bool false) w)
  (M.loop [(Value.int IntKind.i64 0)] (fun s1 K1 w => ∀ _ : List Value,
  M.fieldAddr 0 t6 (fun t28 w =>
  M.load1 t28 (fun t29 w =>
  M.len t29 (fun t30 w =>
  M.bin .lss (s1.getD 0 undef) t30 (fun t31 w =>
  M.cond t31
  (M.call Try.prog 7 #[t23, (s1.getD 0 undef)] (fun t37 w =>
  M.extract 0 t37 (fun t38 w =>
  M.extract 1 t37 (fun t39 w =>
  M.loadA 2 t6 (fun t41 w =>
  M.call Try.prog 8 #[t41, (s1.getD 0 undef)] (fun t43 w =>
  M.extract 0 t43 (fun t44 w =>
  M.extract 1 t43 (fun t45 w =>
  M.val Try.prog (do eqGuard .neq 9 (Operand.tmp 46) (Operand.tmp 47) t38 t44; binOp .neq 9 t38 t44) (fun t48 w =>
  M.gd t48 false (fun k w => k t39 w) (fun t50 w =>
  M.gd t48 false (fun k w => k t45 w) (fun t51 w =>
  M.gd t48 false (fun k w => M.bin .neq t50 t51 k w) (fun t52 w =>
  M.pick t48 (Value.bool true) t52 (fun t53 w =>
  M.cond t53
  (R (Value.bool false) w)
  (M.bin .add (s1.getD 0 undef) (Value.int IntKind.i64 1) (fun t33 w =>
  K1 [t33] w) w)) w) w) w) w) w) w) w) w) w) w) w) w)
  (M.call Try.prog 7 #[t23, x1] (fun t57 w =>
  M.extract 0 t57 (fun t58 w =>
  M.extract 1 t57 (fun t59 w =>
  M.loadA 2 t6 (fun t61 w =>
  M.call Try.prog 8 #[t61, x1] (fun t63 w =>
  M.extract 0 t63 (fun t64 w =>
  M.extract 1 t63 (fun t65 w =>
  M.val Try.prog (do eqGuard .eql 9 (Operand.tmp 66) (Operand.tmp 67) t58 t64; binOp .eql 9 t58 t64) (fun t68 w =>
  M.gd t68 true (fun k w => k t59 w) (fun t70 w =>
  M.gd t68 true (fun k w => k t65 w) (fun t71 w =>
  M.gd t68 true (fun k w => M.bin .eql t70 t71 k w) (fun t72 w =>
  M.pick t68 t72 (Value.bool false) (fun t73 w =>
  M.gd t73 true (fun k w => M.call Try.prog 5 #[] k w) (fun t75 w =>
  M.pick t73 t75 (Value.bool false) (fun t76 w =>
  R t76 w) w) w) w) w) w) w) w) w) w) w) w) w) w) w)) w) w) w) w) w)) w) w) w) w) w) w)) w) w
theorem ok3 (x0 x1 : Value) (R : Kt) (w : World) (h : sh3 x0 x1 R w) : Ret Try.prog 3 #[x0, x1] w R :=
  ret_mk <| calls_of_comp mixed (c := Try.f3.body.getD .skip) (args := [x0, x1]) (rs := [(ResultVar.tmp 4)]) (Ann.seq Ann.text (Ann.seq (Ann.seq Ann.text (Ann.cond (Ann.seq Ann.text Ann.leaf) Ann.leaf)) (Ann.seq Ann.text (Ann.seq (Ann.seq Ann.text (Ann.cond (Ann.seq Ann.text Ann.leaf) Ann.leaf)) (Ann.seq (Ann.seq Ann.text (Ann.block (Ann.loop [7] [4, 8, 9, 10, 11, 27, 28, 29, 30, 31, 32, 33, 34, 35, 36, 37, 38, 39, 40, 41, 42, 43, 44, 45, 46, 47, 48, 49, 50, 51, 52, 53] (Ann.seq (Ann.seq Ann.text (Ann.cond Ann.leaf Ann.leaf)) (Ann.seq (Ann.block (Ann.seq Ann.text (Ann.seq Ann.text (Ann.seq Ann.text (Ann.cond (Ann.seq Ann.text Ann.leaf) Ann.leaf))))) Ann.text))))) (Ann.seq Ann.text (Ann.seq Ann.text (Ann.seq Ann.text Ann.leaf))))))))
    Try.func3 (by kernel_rfl) (by kernel_rfl)
    (Eq.mp (by kernel_rfl) h)

theorem smtTwo (a b : Value) (ha : a.oneCell' = true) (hb : b.oneCell' = true) : ∀ v ∈ [a, b], v.oneCell' = true := by
  simp only [List.mem_cons, List.not_mem_nil, or_false, forall_eq_or_imp, forall_eq]; exact ⟨ha, hb⟩
set_option maxHeartbeats 4000000 in
theorem smtlibTerms_ret {w : World} {D : Nat → Prop} {lv : Value} {l : List Nd} (hl : LN Nd.cells w D lv l) (at_ : Int) :
    Ret Try.prog 3 #[lv, vi at_] w (fun r w' => r = .bool true ∧ Keep w w' No) := by
  obtain ⟨A0, c0, rfl, _, _⟩ := id hl
  refine ok3 _ _ _ _ ?_
  unfold sh3
  by_cases h60 : 60 < l.length
  · (repeat (first|refine ja ?_|refine jb ?_|refine jc ?_|refine jd ?_|refine je ?_|refine jf ?_|refine jg ?_|refine jh ?_|refine ji ?_|refine jj ?_|refine jk ?_|refine jl ?_|refine jm ?_|refine jn ?_|refine jo ?_|refine jp ?_|refine jq ?_|refine jr ?_|refine js ?_|refine jt ?_|refine ju ?_|refine jv ?_|refine jw ?_|refine jx ?_|refine jy ?_|refine jz ?_|refine jA ?_|refine jB ?_|refine jC ?_|refine jD ?_|refine jE ?_|refine jF ?_|refine jG ?_|refine jH ?_|refine jI ?_|refine jJ ?_|refine jK ?_|refine jL ?_|refine jM (by assumption) ?_|refine jN (by assumption) rfl ?_|refine jO (by assumption) ?_|refine jP (by assumption) rfl ?_|refine jQ ?_|refine jR ?_|refine jS ?_|refine jT ?_|refine jU (by assumption) rfl ?_))
    refine M.call_i (awake54_ret w) ?_; rintro _ w1 ⟨rfl, k1⟩
    exact ⟨rfl, k1⟩
  (repeat (first|refine ja ?_|refine jb ?_|refine jc ?_|refine jd ?_|refine je ?_|refine jf ?_|refine jg ?_|refine jh ?_|refine ji ?_|refine jj ?_|refine jk ?_|refine jl ?_|refine jm ?_|refine jn ?_|refine jo ?_|refine jp ?_|refine jq ?_|refine jr ?_|refine js ?_|refine jt ?_|refine ju ?_|refine jv ?_|refine jw ?_|refine jx ?_|refine jy ?_|refine jz ?_|refine jA ?_|refine jB ?_|refine jC ?_|refine jD ?_|refine jE ?_|refine jF ?_|refine jG ?_|refine jH ?_|refine jI ?_|refine jJ ?_|refine jK ?_|refine jL ?_|refine jM (by assumption) ?_|refine jN (by assumption) rfl ?_|refine jO (by assumption) ?_|refine jP (by assumption) rfl ?_|refine jQ ?_|refine jR ?_|refine jS ?_|refine jT ?_|refine jU (by assumption) rfl ?_))
  refine M.call_i (build_ret hl (by omega) 1000) ?_; rintro _ w3 ⟨F, p, v, N, rfl, hd, hr, hF, k3⟩
  have hNl := hd.len.1
  have hG := hd.good
  refine M.extract_i (v := ptr p) rfl ?_
  refine M.extract_i (v := v) rfl ?_
  refine M.new_i (l := [.slice none 0 0, vi 0]) (fun w4 b4 k4 s4 => ?_)
  obtain ⟨X, xc, rfl, _⟩ := id hr
  refine M.storeAll_i b4 rfl rfl (smtTwo _ _ rfl rfl) (fun w5 b5 k5 s5 => ?_)
  have k35 : Keep w3 w5 No := k4.trans k5 (fun b hb h => by have h : b = w3.heap.size := h; omega)
  have hd5 := hd.keepN k35
  have hr5 := hr.keep k35 (fun _ _ _ h => h)
  have k05 := k3.trans k35 (fun _ _ h => h)
  have hNl2 := hd.len
  (repeat (first|refine ja ?_|refine jb ?_|refine jc ?_|refine jd ?_|refine je ?_|refine jf ?_|refine jg ?_|refine jh ?_|refine ji ?_|refine jj ?_|refine jk ?_|refine jl ?_|refine jm ?_|refine jn ?_|refine jo ?_|refine jp ?_|refine jq ?_|refine jr ?_|refine js ?_|refine jt ?_|refine ju ?_|refine jv ?_|refine jw ?_|refine jx ?_|refine jy ?_|refine jz ?_|refine jA ?_|refine jB ?_|refine jC ?_|refine jD ?_|refine jE ?_|refine jF ?_|refine jG ?_|refine jH ?_|refine jI ?_|refine jJ ?_|refine jK ?_|refine jL ?_|refine jM (by assumption) ?_|refine jN (by assumption) rfl ?_|refine jO (by assumption) ?_|refine jP (by assumption) rfl ?_|refine jQ ?_|refine jR ?_|refine jS ?_|refine jT ?_|refine jU (by assumption) rfl ?_))
  refine M.loop_i (σ := Nat) (fun i vals w' => vals = [vi i] ∧ i ≤ N.length ∧ Keep w5 w' No) (fun i => N.length - i) 0 ⟨rfl, by omega, Keep.refl _ _⟩ ?_
  rintro i vals w7 K ⟨rfl, hi, k57⟩ hK _
  simp only [List.getD_cons_zero, List.getD_cons_succ]
  have hd7 := hd5.keepN k57
  have hr7 := hr5.keep k57 (fun _ _ _ h => h)
  have b7 := b5.keep k57 (fun h => h)
  have k07 := k05.trans k57 (fun _ _ h => h)
  by_cases hlt : i < N.length
  · (repeat (first|refine ja ?_|refine jb ?_|refine jc ?_|refine jd ?_|refine je ?_|refine jf ?_|refine jg ?_|refine jh ?_|refine ji ?_|refine jj ?_|refine jk ?_|refine jl ?_|refine jm ?_|refine jn ?_|refine jo ?_|refine jp ?_|refine jq ?_|refine jr ?_|refine js ?_|refine jt ?_|refine ju ?_|refine jv ?_|refine jw ?_|refine jx ?_|refine jy ?_|refine jz ?_|refine jA ?_|refine jB ?_|refine jC ?_|refine jD ?_|refine jE ?_|refine jF ?_|refine jG ?_|refine jH ?_|refine jI ?_|refine jJ ?_|refine jK ?_|refine jL ?_|refine jM (by assumption) ?_|refine jN (by assumption) rfl ?_|refine jO (by assumption) ?_|refine jP (by assumption) rfl ?_|refine jQ ?_|refine jR ?_|refine jS ?_|refine jT ?_|refine jU (by assumption) rfl ?_))
    refine M.call_i (term_ret hd7 (i : Int)) ?_; rintro _ w8 ⟨rfl, k8⟩
    refine M.extract_i (v := vs (smtN N i).1) rfl ?_
    refine M.extract_i (v := vi (smtN N i).2) rfl ?_
    have b8 := b7.keep k8 (fun h => h)
    refine M.loadAll_i b8 rfl ?_
    refine M.call_i (rterm_ret (hr7.keep k8 (fun _ _ _ h => h)) hG (by omega) (i : Int)) ?_; rintro _ w9 ⟨rfl, k9⟩
    refine M.extract_i (v := vs (smtN N i).1) rfl ?_
    refine M.extract_i (v := vi (smtN N i).2) rfl ?_
    refine M.sne_i ?_
    rw [decide_eq_true rfl]
    (repeat (first|refine ja ?_|refine jb ?_|refine jc ?_|refine jd ?_|refine je ?_|refine jf ?_|refine jg ?_|refine jh ?_|refine ji ?_|refine jj ?_|refine jk ?_|refine jl ?_|refine jm ?_|refine jn ?_|refine jo ?_|refine jp ?_|refine jq ?_|refine jr ?_|refine js ?_|refine jt ?_|refine ju ?_|refine jv ?_|refine jw ?_|refine jx ?_|refine jy ?_|refine jz ?_|refine jA ?_|refine jB ?_|refine jC ?_|refine jD ?_|refine jE ?_|refine jF ?_|refine jG ?_|refine jH ?_|refine jI ?_|refine jJ ?_|refine jK ?_|refine jL ?_|refine jM (by assumption) ?_|refine jN (by assumption) rfl ?_|refine jO (by assumption) ?_|refine jP (by assumption) rfl ?_|refine jQ ?_|refine jR ?_|refine jS ?_|refine jT ?_|refine jU (by assumption) rfl ?_))
    exact hK (i + 1) _ _ (by omega) ⟨rfl, by omega, (k57.trans k8 (fun _ _ h => h)).trans k9 (fun _ _ h => h)⟩
  · (repeat (first|refine ja ?_|refine jb ?_|refine jc ?_|refine jd ?_|refine je ?_|refine jf ?_|refine jg ?_|refine jh ?_|refine ji ?_|refine jj ?_|refine jk ?_|refine jl ?_|refine jm ?_|refine jn ?_|refine jo ?_|refine jp ?_|refine jq ?_|refine jr ?_|refine js ?_|refine jt ?_|refine ju ?_|refine jv ?_|refine jw ?_|refine jx ?_|refine jy ?_|refine jz ?_|refine jA ?_|refine jB ?_|refine jC ?_|refine jD ?_|refine jE ?_|refine jF ?_|refine jG ?_|refine jH ?_|refine jI ?_|refine jJ ?_|refine jK ?_|refine jL ?_|refine jM (by assumption) ?_|refine jN (by assumption) rfl ?_|refine jO (by assumption) ?_|refine jP (by assumption) rfl ?_|refine jQ ?_|refine jR ?_|refine jS ?_|refine jT ?_|refine jU (by assumption) rfl ?_))
    refine M.call_i (term_ret hd7 at_) ?_; rintro _ w8 ⟨rfl, k8⟩
    refine M.extract_i (v := vs (smtN N at_).1) rfl ?_
    refine M.extract_i (v := vi (smtN N at_).2) rfl ?_
    have b8 := b7.keep k8 (fun h => h)
    refine M.loadAll_i b8 rfl ?_
    refine M.call_i (rterm_ret (hr7.keep k8 (fun _ _ _ h => h)) hG (by omega) at_) ?_; rintro _ w9 ⟨rfl, k9⟩
    refine M.extract_i (v := vs (smtN N at_).1) rfl ?_
    refine M.extract_i (v := vi (smtN N at_).2) rfl ?_
    refine M.seq_i ?_
    rw [decide_eq_true rfl]
    (repeat (first|refine ja ?_|refine jb ?_|refine jc ?_|refine jd ?_|refine je ?_|refine jf ?_|refine jg ?_|refine jh ?_|refine ji ?_|refine jj ?_|refine jk ?_|refine jl ?_|refine jm ?_|refine jn ?_|refine jo ?_|refine jp ?_|refine jq ?_|refine jr ?_|refine js ?_|refine jt ?_|refine ju ?_|refine jv ?_|refine jw ?_|refine jx ?_|refine jy ?_|refine jz ?_|refine jA ?_|refine jB ?_|refine jC ?_|refine jD ?_|refine jE ?_|refine jF ?_|refine jG ?_|refine jH ?_|refine jI ?_|refine jJ ?_|refine jK ?_|refine jL ?_|refine jM (by assumption) ?_|refine jN (by assumption) rfl ?_|refine jO (by assumption) ?_|refine jP (by assumption) rfl ?_|refine jQ ?_|refine jR ?_|refine jS ?_|refine jT ?_|refine jU (by assumption) rfl ?_))
    refine M.call_i (awake54_ret w9) ?_; rintro _ w10 ⟨rfl, k10⟩
    (repeat (first|refine ja ?_|refine jb ?_|refine jc ?_|refine jd ?_|refine je ?_|refine jf ?_|refine jg ?_|refine jh ?_|refine ji ?_|refine jj ?_|refine jk ?_|refine jl ?_|refine jm ?_|refine jn ?_|refine jo ?_|refine jp ?_|refine jq ?_|refine jr ?_|refine js ?_|refine jt ?_|refine ju ?_|refine jv ?_|refine jw ?_|refine jx ?_|refine jy ?_|refine jz ?_|refine jA ?_|refine jB ?_|refine jC ?_|refine jD ?_|refine jE ?_|refine jF ?_|refine jG ?_|refine jH ?_|refine jI ?_|refine jJ ?_|refine jK ?_|refine jL ?_|refine jM (by assumption) ?_|refine jN (by assumption) rfl ?_|refine jO (by assumption) ?_|refine jP (by assumption) rfl ?_|refine jQ ?_|refine jR ?_|refine jS ?_|refine jT ?_|refine jU (by assumption) rfl ?_))
    exact ⟨rfl, ((k07.trans k8 (fun _ _ h => h)).trans k9 (fun _ _ h => h)).trans k10 (fun _ _ h => h)⟩
end Go.Proofs.Ythkkjjbjpbgcpaa
