import Derived.Test.YthkkjjbjpbgcpaaSmt54l
import Derived.Test.YthkkjjbjpbgcpaaRef16b
namespace Go.Proofs.Ythkkjjbjpbgcpaa
open Go.Mw Go.Lib Go.Maps Go.MapKept
set_option linter.unusedVariables false
set_option linter.unusedSimpArgs false
set_option maxRecDepth 100000
attribute [local irreducible] M.val M.unit M.next M.pick M.new M.nilCheck M.load1 M.loadA M.store M.fieldAddr M.indexSl M.indexArr M.slice M.makeSlice M.buildSlice M.len M.lenS M.cap M.append M.extract M.conv M.not M.neg M.bin M.shift M.eqB M.eqNil M.scat M.call M.callv M.gd M.share M.cond M.loop M.draw pureW readW Ret
/-! breakwater/breakwaterref54.width: function 35 -/
def sh35 (x0 x1 : Value) (R : Kt) (w : World) : Prop :=
  M.new 27 (Value.cells x0) (fun t2 w =>
  M.loop [(Value.int IntKind.i64 0)] (fun s1 K1 w => ∀ _ : List Value,
  M.fieldAddr 0 t2 (fun t7 w =>
  M.load1 t7 (fun t8 w =>
  M.len t8 (fun t9 w =>
  M.bin .lss (s1.getD 0 undef) t9 (fun t10 w =>
  M.cond t10
  (M.fieldAddr 0 t2 (fun t13 w =>
  M.load1 t13 (fun t14 w =>
  M.indexSl 6 t14 (s1.getD 0 undef) (fun t16 w =>
  M.fieldAddr 0 t16 (fun t17 w =>
  M.load1 t17 (fun t18 w =>
  M.bin .eql t18 (Value.int IntKind.i64 21) (fun t19 w =>
  M.gd t19 true (fun k w => M.fieldAddr 0 t2 k w) (fun t21 w =>
  M.gd t19 true (fun k w => M.load1 t21 k w) (fun t22 w =>
  M.gd t19 true (fun k w => k (s1.getD 0 undef) w) (fun t23 w =>
  M.gd t19 true (fun k w => M.indexSl 6 t22 t23 k w) (fun t24 w =>
  M.gd t19 true (fun k w => M.fieldAddr 2 t24 k w) (fun t25 w =>
  M.gd t19 true (fun k w => M.load1 t25 k w) (fun t26 w =>
  M.gd t19 true (fun k w => k x1 w) (fun t27 w =>
  M.gd t19 true (fun k w => M.bin .eql t26 t27 k w) (fun t28 w =>
  M.pick t19 t28 (Value.bool false) (fun t29 w =>
  M.cond t29
  (M.fieldAddr 0 t2 (fun t30 w =>
  M.load1 t30 (fun t31 w =>
  M.indexSl 6 t31 (s1.getD 0 undef) (fun t33 w =>
  M.fieldAddr 1 t33 (fun t34 w =>
  M.load1 t34 (fun t35 w =>
  R t35 w) w) w) w) w) w)
  (M.bin .add (s1.getD 0 undef) (Value.int IntKind.i64 1) (fun t12 w =>
  K1 [t12] w) w)) w) w) w) w) w) w) w) w) w) w) w) w) w) w) w)
  (R (Value.int IntKind.i64 0) w)) w) w) w) w) w) w
theorem ok35 (x0 x1 : Value) (R : Kt) (w : World) (h : sh35 x0 x1 R w) : Ret Try.prog 35 #[x0, x1] w R :=
  ret_mk <| calls_of_comp mixed (c := Try.f35.body.getD .skip) (args := [x0, x1]) (rs := [(ResultVar.tmp 4)]) (Ann.seq Ann.text (Ann.seq (Ann.seq Ann.text (Ann.block (Ann.loop [5] [4, 6, 7, 8, 9, 10, 11, 12, 13, 14, 15, 16, 17, 18, 19, 20, 21, 22, 23, 24, 25, 26, 27, 28, 29, 30, 31, 32, 33, 34, 35] (Ann.seq (Ann.seq Ann.text (Ann.cond Ann.leaf Ann.leaf)) (Ann.seq (Ann.block (Ann.seq Ann.text (Ann.cond (Ann.seq Ann.text Ann.leaf) Ann.leaf))) Ann.text))))) (Ann.seq Ann.text Ann.leaf)))
    Try.func35 (by kernel_rfl) (by kernel_rfl)
    (Eq.mp (by kernel_rfl) h)
/-! breakwater/breakwaterref54.Script: function 10 -/
def sh10 (x0 x1 : Value) (R : Kt) (w : World) : Prop :=
  M.new 27 (Value.cells x0) (fun t2 w =>
  M.loop [(Value.string { data := #[] }), (Value.slice none 0 0), (Value.int IntKind.i64 0)] (fun s1 K1 w => ∀ _ : List Value,
  M.len x1 (fun t15 w =>
  M.bin .lss (s1.getD 2 undef) t15 (fun t16 w =>
  M.cond t16
  (M.draw (fun w =>
  M.loadA 2 t2 (fun t19 w =>
  M.indexSl 1 x1 (s1.getD 2 undef) (fun t22 w =>
  M.load1 t22 (fun t23 w =>
  M.call Try.prog 25 #[t19, t23] (fun t24 w =>
  M.not t24 (fun t25 w =>
  M.cond t25
  (R (.tuple #[(Value.string { data := #[] }), (Value.int IntKind.i64 11)]) w)
  (M.draw (fun w =>
  M.loadA 2 t2 (fun t26 w =>
  M.indexSl 1 x1 (s1.getD 2 undef) (fun t29 w =>
  M.load1 t29 (fun t30 w =>
  M.call Try.prog 31 #[t26, t30] (fun t31 w =>
  M.bin .neq t31 (Value.int IntKind.i64 1) (fun t32 w =>
  M.cond t32
  (R (.tuple #[(Value.string { data := #[] }), (Value.int IntKind.i64 2)]) w)
  (M.draw (fun w =>
  M.loadA 2 t2 (fun t34 w =>
  M.indexSl 1 x1 (s1.getD 2 undef) (fun t37 w =>
  M.load1 t37 (fun t38 w =>
  M.call Try.prog 8 #[t34, t38] (fun t39 w =>
  M.extract 0 t39 (fun t40 w =>
  M.extract 1 t39 (fun t41 w =>
  M.bin .neq t41 (Value.int IntKind.i64 0) (fun t43 w =>
  M.cond t43
  (R (.tuple #[(Value.string { data := #[] }), t41]) w)
  (M.scat (s1.getD 0 undef) (Value.string { data := #[40, 97, 115, 115, 101, 114, 116, 32, 40, 61, 32] }) (fun t46 w =>
  M.scat t46 t40 (fun t48 w =>
  M.scat t48 (Value.string { data := #[32] }) (fun t49 w =>
  M.scat t49 (Value.string { data := #[40, 95, 32, 98, 118, 49, 32, 49, 41] }) (fun t50 w =>
  M.scat t50 (Value.string { data := #[41, 41, 10] }) (fun t51 w =>
  M.draw (fun w =>
  M.loadA 2 t2 (fun t53 w =>
  M.indexSl 1 x1 (s1.getD 2 undef) (fun t56 w =>
  M.load1 t56 (fun t57 w =>
  M.call Try.prog 32 #[t53, t57] (fun t58 w =>
  M.append 3 1 8 #[.int .i64 0] (s1.getD 1 undef) t58 (fun t59 w =>
  M.bin .add (s1.getD 2 undef) (Value.int IntKind.i64 1) (fun t18 w =>
  K1 [t51, t59, t18] w) w) w) w) w) w) w) w) w) w) w) w) w)) w) w) w) w) w) w) w) w)) w) w) w) w) w) w)) w) w) w) w) w) w)
  (M.call Try.prog 33 #[(s1.getD 1 undef)] (fun t61 w =>
  M.loop [(Value.string { data := #[40, 115, 101, 116, 45, 108, 111, 103, 105, 99, 32, 81, 70, 95, 66, 86, 41, 10] }), (Value.int IntKind.i64 0)] (fun s2 K2 w => ∀ _ : List Value,
  M.len t61 (fun t64 w =>
  M.bin .lss (s2.getD 1 undef) t64 (fun t65 w =>
  M.cond t65
  (M.draw (fun w =>
  M.scat (s2.getD 0 undef) (Value.string { data := #[40, 100, 101, 99, 108, 97, 114, 101, 45, 102, 117, 110, 32, 120] }) (fun t69 w =>
  M.indexSl 1 t61 (s2.getD 1 undef) (fun t72 w =>
  M.load1 t72 (fun t73 w =>
  M.loadA 2 t2 (fun t77 w =>
  M.indexSl 1 t61 (s2.getD 1 undef) (fun t80 w =>
  M.load1 t80 (fun t81 w =>
  M.call Try.prog 34 #[t73] (fun t74 w =>
  ((M.load1 t80 (fun v' _ => v' = t81) w) ∧ ((M.loadA 2 t2 (fun v' _ => v' = t77) w) ∧ M.scat t69 t74 (fun t75 w =>
  M.scat t75 (Value.string { data := #[32, 40, 41, 32, 40, 95, 32, 66, 105, 116, 86, 101, 99, 32] }) (fun t76 w =>
  M.call Try.prog 35 #[t77, t81] (fun t82 w =>
  M.call Try.prog 34 #[t82] (fun t83 w =>
  M.scat t76 t83 (fun t84 w =>
  M.scat t84 (Value.string { data := #[41, 41, 10] }) (fun t85 w =>
  M.bin .add (s2.getD 1 undef) (Value.int IntKind.i64 1) (fun t67 w =>
  K2 [t85, t67] w) w) w) w) w) w) w) w))) w) w) w) w) w) w) w) w)
  (M.scat (s2.getD 0 undef) (s1.getD 0 undef) (fun t88 w =>
  M.scat t88 (Value.string { data := #[40, 99, 104, 101, 99, 107, 45, 115, 97, 116, 41, 10] }) (fun t89 w =>
  R (.tuple #[t89, (Value.int IntKind.i64 0)]) w) w) w)) w) w) w) w)) w) w) w) w
theorem ok10 (x0 x1 : Value) (R : Kt) (w : World) (h : sh10 x0 x1 R w) : Ret Try.prog 10 #[x0, x1] w R :=
  ret_mk <| calls_of_comp mixed (c := Try.f10.body.getD .skip) (args := [x0, x1]) (rs := [(ResultVar.tmp 4), (ResultVar.tmp 5)]) (Ann.seq Ann.text (Ann.seq Ann.text (Ann.seq Ann.text (Ann.seq (Ann.seq Ann.text (Ann.block (Ann.loop [6, 7, 8] [4, 5, 9, 10, 13, 14, 15, 16, 17, 18, 19, 20, 21, 22, 23, 24, 25, 26, 27, 28, 29, 30, 31, 32, 33, 34, 35, 36, 37, 38, 39, 40, 41, 42, 43, 44, 45, 46, 47, 48, 49, 50, 51, 52, 53, 54, 55, 56, 57, 58, 59] (Ann.seq (Ann.seq Ann.text (Ann.cond Ann.leaf Ann.leaf)) (Ann.seq (Ann.block (Ann.seq (Ann.seq (Ann.draw (Sch.take 0 (Sch.take 1 (Sch.take 2 (Sch.take 3 (Sch.take 4 (Sch.one 5 (Sch.take 6 Sch.done)))))))) (Ann.cond (Ann.seq Ann.text Ann.leaf) Ann.leaf)) (Ann.seq (Ann.seq (Ann.draw (Sch.take 0 (Sch.take 1 (Sch.take 2 (Sch.take 3 (Sch.take 4 (Sch.one 5 (Sch.take 6 Sch.done)))))))) (Ann.cond (Ann.seq Ann.text Ann.leaf) Ann.leaf)) (Ann.seq (Ann.draw (Sch.take 0 (Sch.take 1 (Sch.take 2 (Sch.take 3 (Sch.take 4 (Sch.one 5 (Sch.take 6 (Sch.take 7 (Sch.take 8 (Sch.take 9 (Sch.take 10 Sch.done)))))))))))) (Ann.seq (Ann.seq Ann.text (Ann.cond (Ann.seq Ann.text Ann.leaf) Ann.leaf)) (Ann.seq Ann.text (Ann.draw (Sch.take 0 (Sch.take 1 (Sch.take 2 (Sch.take 3 (Sch.take 4 (Sch.take 5 (Sch.one 6 (Sch.one 7 (Sch.take 8 Sch.done)))))))))))))))) Ann.text))))) (Ann.seq Ann.text (Ann.seq Ann.text (Ann.seq (Ann.seq Ann.text (Ann.block (Ann.loop [11, 12] [62, 63, 64, 65, 66, 67, 68, 69, 70, 71, 72, 73, 74, 75, 76, 77, 78, 79, 80, 81, 82, 83, 84, 85] (Ann.seq (Ann.seq Ann.text (Ann.cond Ann.leaf Ann.leaf)) (Ann.seq (Ann.block (Ann.draw (Sch.take 0 (Sch.take 1 (Sch.take 2 (Sch.take 3 (Sch.take 4 (Sch.take 5 (Sch.take 9 (Sch.take 10 (Sch.take 11 (Sch.take 12 (Sch.take 13 (Sch.one 6 (Sch.take 7 (Sch.take 8 (Sch.one 14 (Sch.one 15 (Sch.take 16 (Sch.take 17 (Sch.take 18 Sch.done))))))))))))))))))))) Ann.text))))) (Ann.seq Ann.text Ann.leaf))))))))
    Try.func10 (by kernel_rfl) (by kernel_rfl)
    (Eq.mp (by kernel_rfl) h)
/-! breakwater/breakwaterlaw54.SmtlibScripts: function 4 -/
def sh4 (x0 x1 : Value) (R : Kt) (w : World) : Prop :=
  M.len x0 (fun t12 w =>
  M.bin .gtr t12 (Value.int IntKind.i64 60) (fun t13 w =>
  M.gd t13 false (fun k w => k x1 w) (fun t15 w =>
  M.gd t13 false (fun k w => M.len t15 k w) (fun t16 w =>
  M.gd t13 false (fun k w => M.bin .gtr t16 (Value.int IntKind.i64 20) k w) (fun t17 w =>
  M.pick t13 (Value.bool true) t17 (fun t18 w =>
  M.cond t18
  (M.call Try.prog 5 #[] (fun t19 w =>
  R t19 w) w)
  (M.call Try.prog 6 #[(Value.int IntKind.i64 1000), x0] (fun t22 w =>
  M.extract 0 t22 (fun t23 w =>
  M.extract 1 t22 (fun t24 w =>
  M.new 27 #[.slice none 0 0, .int .i64 0] (fun t6 w =>
  M.store 2 t6 t24 (fun _ w =>
  M.eqNil 0 false t23 (fun t26 w =>
  M.cond t26
  (R (Value.bool false) w)
  (M.call Try.prog 9 #[t23, x1] (fun t30 w =>
  M.extract 0 t30 (fun t31 w =>
  M.extract 1 t30 (fun t32 w =>
  M.loadA 2 t6 (fun t34 w =>
  M.call Try.prog 10 #[t34, x1] (fun t36 w =>
  M.extract 0 t36 (fun t37 w =>
  M.extract 1 t36 (fun t38 w =>
  M.val Try.prog (do eqGuard .eql 9 (Operand.tmp 39) (Operand.tmp 40) t31 t37; binOp .eql 9 t31 t37) (fun t41 w =>
  M.gd t41 true (fun k w => k t32 w) (fun t43 w =>
  M.gd t41 true (fun k w => k t38 w) (fun t44 w =>
  M.gd t41 true (fun k w => M.bin .eql t43 t44 k w) (fun t45 w =>
  M.pick t41 t45 (Value.bool false) (fun t46 w =>
  M.gd t46 true (fun k w => M.call Try.prog 5 #[] k w) (fun t48 w =>
  M.pick t46 t48 (Value.bool false) (fun t49 w =>
  R t49 w) w) w) w) w) w) w) w) w) w) w) w) w) w) w)) w) w) w) w) w) w)) w) w) w) w) w) w
theorem ok4 (x0 x1 : Value) (R : Kt) (w : World) (h : sh4 x0 x1 R w) : Ret Try.prog 4 #[x0, x1] w R :=
  ret_mk <| calls_of_comp mixed (c := Try.f4.body.getD .skip) (args := [x0, x1]) (rs := [(ResultVar.tmp 4)]) (Ann.seq Ann.text (Ann.seq (Ann.seq Ann.text (Ann.cond (Ann.seq Ann.text Ann.leaf) Ann.leaf)) (Ann.seq Ann.text (Ann.seq (Ann.seq Ann.text (Ann.cond (Ann.seq Ann.text Ann.leaf) Ann.leaf)) (Ann.seq Ann.text (Ann.seq Ann.text (Ann.seq Ann.text Ann.leaf)))))))
    Try.func4 (by kernel_rfl) (by kernel_rfl)
    (Eq.mp (by kernel_rfl) h)

section
variable {w : World} {D : Nat → Prop} {v : Value} {N : List Nd} {most : Int}
theorem rvars_ret (hd : RD w D v N most) (hN : N.length ≤ 1000000) (hG : GoodN N) (it : Int) :
    Ret Try.prog 32 #[v, vi it] w (fun r w' => GI w' (w.heap.size ≤ ·) r (varsN N it) ∧ Keep w w' No) := by
  obtain ⟨A, c, rfl, hr⟩ := id hd
  refine ok32 _ _ _ _ ?_
  unfold sh32
  refine M.new_i (l := [.slice A N.length c, vi most]) (fun w1 b1 k1 s1 => ?_)
  refine M.loadAll_i b1 rfl ?_
  refine M.call_i (rbelow_ret (hd.keep k1 (fun _ _ _ h => h)) hN hG it) ?_; rintro _ w2 ⟨out, ⟨B, cb, rfl, hrb, _⟩, ho1, ho2, k2⟩
  have b2 := b1.keep k2 (fun h => h)
  have k02 := k1.trans k2 (fun _ _ h => h)
  have q1 := k1.size; have q2 := k2.size
  have hol : out.length ≤ N.length := by rw [nodup_len ho2 (nodup_belN N it) ho1]; exact belN_len
  have hrb := hrb.mono (D' := (· < w2.heap.size)) (fun b hb h => hb)
  have hin : ∀ x ∈ out, isN N x = true := fun x hx => by
    obtain ⟨h1, h2⟩ := (mem_belN hG).1 ((ho1 x).1 hx)
    exact h2.is hG h1
  refine M.loop_i (σ := Nat) (fun i vals w' => ∃ sv, vals = [sv, vi i] ∧ i ≤ out.length ∧ GI w' (w2.heap.size ≤ ·) sv (varsA N (out.take i)) ∧ Keep w2 w' (w2.heap.size ≤ ·)) (fun i => out.length - i) 0 ⟨_, rfl, by omega, GI.nil _ _, Keep.refl _ _⟩ ?_
  rintro i vals w3 K ⟨sv, rfl, hi, g3, k3⟩ hK _
  simp only [List.getD_cons_zero, List.getD_cons_succ]
  have q3 := k3.size
  by_cases hlt : i < out.length
  · obtain ⟨x, hx⟩ : ∃ x, out[i]? = some x := ⟨_, List.getElem?_eq_getElem hlt⟩
    have hxN := hin x (List.mem_of_getElem? hx)
    obtain ⟨j, n, rfl, hn⟩ := isN_get hxN
    have et : varsA N (out.take (i + 1)) = varsA N (out.take i) ++ (if n.op = 21 then [n.a] else []) := by
      rw [List.take_add_one, hx, varsA_app]
      congr 1
      unfold varsA
      by_cases ho : n.op = 21 <;> simp [hn, ho]
    have kd := Keep.drew w3 No
    have k2d := k3.trans kd (fun _ _ h => h.elim)
    have bd := b2.keep k2d (fun h => by have h : w2.heap.size ≤ w.heap.size := h; omega)
    have k0d : Keep w w3.drew No := k02.trans k2d (fun b hb h => by have h : w2.heap.size ≤ b := h; omega)
    have hrbd := hrb.keep k2d (fun b hb h1 h2 => by have h1 : b < w2.heap.size := h1; have h2 : w2.heap.size ≤ b := h2; omega)
    have hrd := hr.keep k0d (fun _ _ _ h => h)
    (repeat (first|refine ja ?_|refine jb ?_|refine jc ?_|refine jd ?_|refine je ?_|refine jf ?_|refine jg ?_|refine jh ?_|refine ji ?_|refine jj ?_|refine jk ?_|refine jl ?_|refine jm ?_|refine jn ?_|refine jo ?_|refine jp ?_|refine jq ?_|refine jr ?_|refine js ?_|refine jt ?_|refine ju ?_|refine jv ?_|refine jw ?_|refine jx ?_|refine jy ?_|refine jz ?_|refine jA ?_|refine jB ?_|refine jC ?_|refine jD ?_|refine jE ?_|refine jF ?_|refine jG ?_|refine jH ?_|refine jI ?_|refine jJ ?_|refine jK ?_|refine jL ?_|refine jM (by assumption) ?_|refine jN (by assumption) rfl ?_|refine jO (by assumption) ?_|refine jP (by assumption) rfl ?_|refine jQ ?_|refine jR ?_|refine jS ?_|refine jT ?_|refine jU (by assumption) rfl ?_))
    refine M.share_j (fun vals w' => ∃ sv, vals = [sv] ∧ GI w' (w2.heap.size ≤ ·) sv (varsA N (out.take (i + 1))) ∧ Keep w2 w' (w2.heap.size ≤ ·)) ?_ ?_
    · rintro vals w4 ⟨sv, rfl, g4, k4⟩ _
      simp only [List.getD_cons_zero, List.getD_cons_succ]
      (repeat (first|refine ja ?_|refine jb ?_|refine jc ?_|refine jd ?_|refine je ?_|refine jf ?_|refine jg ?_|refine jh ?_|refine ji ?_|refine jj ?_|refine jk ?_|refine jl ?_|refine jm ?_|refine jn ?_|refine jo ?_|refine jp ?_|refine jq ?_|refine jr ?_|refine js ?_|refine jt ?_|refine ju ?_|refine jv ?_|refine jw ?_|refine jx ?_|refine jy ?_|refine jz ?_|refine jA ?_|refine jB ?_|refine jC ?_|refine jD ?_|refine jE ?_|refine jF ?_|refine jG ?_|refine jH ?_|refine jI ?_|refine jJ ?_|refine jK ?_|refine jL ?_|refine jM (by assumption) ?_|refine jN (by assumption) rfl ?_|refine jO (by assumption) ?_|refine jP (by assumption) rfl ?_|refine jQ ?_|refine jR ?_|refine jS ?_|refine jT ?_|refine jU (by assumption) rfl ?_))
      exact hK (i + 1) _ _ (by omega) ⟨sv, rfl, by omega, g4, k4⟩
    · intro K2 hK2
      refine M.draw_i ?_
      refine M.field_i ?_
      refine M.loadB_i bd rfl ?_
      refine M.idxLV_i hrbd rfl (by omega) (by omega) (x := (j : Int)) (by simpa using hx) (fun bb oo hA hcc => ?_)
      refine M.load_i hcc ?_
      refine M.idxN_i hrd rfl (by omega) (n := n) (by rw [Int.toNat_natCast]; exact hn) (fun b1' o1' hc => ?_)
      refine M.field_i ?_
      refine M.load_i (hc 0 _ rfl) ?_
      by_cases ho : n.op = 21
      · rw [if_pos ho] at et
        (repeat (first|refine ja ?_|refine jb ?_|refine jc ?_|refine jd ?_|refine je ?_|refine jf ?_|refine jg ?_|refine jh ?_|refine ji ?_|refine jj ?_|refine jk ?_|refine jl ?_|refine jm ?_|refine jn ?_|refine jo ?_|refine jp ?_|refine jq ?_|refine jr ?_|refine js ?_|refine jt ?_|refine ju ?_|refine jv ?_|refine jw ?_|refine jx ?_|refine jy ?_|refine jz ?_|refine jA ?_|refine jB ?_|refine jC ?_|refine jD ?_|refine jE ?_|refine jF ?_|refine jG ?_|refine jH ?_|refine jI ?_|refine jJ ?_|refine jK ?_|refine jL ?_|refine jM (by assumption) ?_|refine jN (by assumption) rfl ?_|refine jO (by assumption) ?_|refine jP (by assumption) rfl ?_|refine jQ ?_|refine jR ?_|refine jS ?_|refine jT ?_|refine jU (by assumption) rfl ?_))
        have kdd := Keep.drew w3.drew No
        have k2e := k2d.trans kdd (fun _ _ h => h.elim)
        have be := bd.keep kdd (fun h => h)
        have hrbe := hrbd.keep kdd (fun _ _ _ h => h)
        have hre := hrd.keep kdd (fun _ _ _ h => h)
        have ge := (g3.keep kd (fun _ _ _ h => h)).keep kdd (fun _ _ _ h => h)
        refine M.idxLV_i hrbe rfl (by omega) (by omega) (x := (j : Int)) (by simpa using hx) (fun b2' o2' hA2 hcc2 => ?_)
        have hb2 : b2' < w2.heap.size := by
          rcases hrb with h | ⟨bq, oq, cq, Tq, fq, hq1, hq2, _⟩
          · have : out = [] := by simpa using h
            rw [this] at hlt; simp at hlt
          · rw [hq1] at hA2
            simp only [Option.some.injEq, Addr.mk.injEq] at hA2
            rw [← hA2.1]; exact hq2
        refine M.load_i hcc2 ?_
        refine M.idxN_i hre rfl (by omega) (n := n) (by rw [Int.toNat_natCast]; exact hn) (fun b3' o3' hc3 => ?_)
        refine M.field_i ?_
        refine M.load_i (hc3 2 _ rfl) ?_
        refine M.buildSlice_i [vi n.a] (by kernel_rfl) (fun w4 b4 k4 s4 => ?_)
        refine M.st_i (k4.cell (fun h => h) hcc2) ?_
        refine M.stB_i (be.keep k4 (fun h => h)) rfl ?_
        have hvl := varsA_len (N := N) (l := out.take i)
        rw [List.length_take] at hvl
        refine M.append1_i (ge.keep k4 (fun _ _ _ h => h)) (Row.of_blk' (D := fun _ => True) b4 trivial) rfl (by omega) (fun v5 w5 g5 k5 => ?_)
        have q4 := k4.size
        have e3 : w3.drew.drew.heap.size = w3.heap.size := rfl
        refine M.st_i (k5.cell (fun h => by have h : w2.heap.size ≤ b2' := h; omega) (k4.cell (fun h => h) hcc2)) ?_
        refine M.stB_i ((be.keep k4 (fun h => h)).keep k5 (fun h => by have h : w2.heap.size ≤ w.heap.size := h; omega)) rfl ?_
        refine hK2 _ _ ⟨v5, rfl, ?_, (k2e.trans k4 (fun _ _ h => h.elim)).trans k5 (fun _ _ h => h)⟩
        rw [et]
        exact g5.mono (fun b hb h => by
          rcases h with h | h
          · exact h
          · show w2.heap.size ≤ b; omega)
      · rw [if_neg ho, List.append_nil] at et
        (repeat (first|refine ja ?_|refine jb ?_|refine jc ?_|refine jd ?_|refine je ?_|refine jf ?_|refine jg ?_|refine jh ?_|refine ji ?_|refine jj ?_|refine jk ?_|refine jl ?_|refine jm ?_|refine jn ?_|refine jo ?_|refine jp ?_|refine jq ?_|refine jr ?_|refine js ?_|refine jt ?_|refine ju ?_|refine jv ?_|refine jw ?_|refine jx ?_|refine jy ?_|refine jz ?_|refine jA ?_|refine jB ?_|refine jC ?_|refine jD ?_|refine jE ?_|refine jF ?_|refine jG ?_|refine jH ?_|refine jI ?_|refine jJ ?_|refine jK ?_|refine jL ?_|refine jM (by assumption) ?_|refine jN (by assumption) rfl ?_|refine jO (by assumption) ?_|refine jP (by assumption) rfl ?_|refine jQ ?_|refine jR ?_|refine jS ?_|refine jT ?_|refine jU (by assumption) rfl ?_))
        refine hK2 _ _ ⟨_, rfl, ?_, k2d⟩
        rw [et]; exact g3.keep kd (fun _ _ _ h => h)
  · have e : i = out.length := by omega
    subst e
    rw [List.take_length] at g3
    have hvl := varsA_len (N := N) (l := out)
    (repeat (first|refine ja ?_|refine jb ?_|refine jc ?_|refine jd ?_|refine je ?_|refine jf ?_|refine jg ?_|refine jh ?_|refine ji ?_|refine jj ?_|refine jk ?_|refine jl ?_|refine jm ?_|refine jn ?_|refine jo ?_|refine jp ?_|refine jq ?_|refine jr ?_|refine js ?_|refine jt ?_|refine ju ?_|refine jv ?_|refine jw ?_|refine jx ?_|refine jy ?_|refine jz ?_|refine jA ?_|refine jB ?_|refine jC ?_|refine jD ?_|refine jE ?_|refine jF ?_|refine jG ?_|refine jH ?_|refine jI ?_|refine jJ ?_|refine jK ?_|refine jL ?_|refine jM (by assumption) ?_|refine jN (by assumption) rfl ?_|refine jO (by assumption) ?_|refine jP (by assumption) rfl ?_|refine jQ ?_|refine jR ?_|refine jS ?_|refine jT ?_|refine jU (by assumption) rfl ?_))
    refine M.call_i (sorted_ret (GI.lv g3) (by show _ ≤ 100000000000; omega)) ?_; rintro _ w4 ⟨g4, k4⟩
    rw [varsN_of ho1] at g4
    exact ⟨g4.mono (fun b _ h => by have h : w3.heap.size ≤ b := h; show w.heap.size ≤ b; omega), (k02.trans k3 (fun b hb h => by have h : w2.heap.size ≤ b := h; omega)).trans k4 (fun _ _ h => h)⟩
theorem rwidth54_ret (hd : RD w D v N most) (hN : N.length ≤ 100000) (x : Int) : Ret Try.prog 35 #[v, vi x] w (fun r w' => r = vi (wdV N x) ∧ Keep w w' No) := by
  obtain ⟨A, c, rfl, hr⟩ := id hd
  refine ok35 _ _ _ _ ?_
  unfold sh35
  refine M.new_i (l := [.slice A N.length c, vi most]) (fun w1 b1 k1 s1 => ?_)
  have hr1 := hr.keep k1 (fun _ _ _ h => h)
  refine M.loop_i (σ := Nat) (fun i vals w' => vals = [vi i] ∧ i ≤ N.length ∧ (∀ j m, j < i → N[j]? = some m → ¬ (m.op = 21 ∧ m.a = x)) ∧ w' = w1) (fun i => N.length - i) 0 ⟨rfl, by omega, fun j m hj => by omega, rfl⟩ ?_
  rintro i vals w2 K ⟨rfl, hi, hno, rfl⟩ hK _
  simp only [List.getD_cons_zero, List.getD_cons_succ]
  by_cases hlt : i < N.length
  · obtain ⟨n, hn⟩ : ∃ n, N[i]? = some n := ⟨_, List.getElem?_eq_getElem hlt⟩
    have hn' : N[(i : Int).toNat]? = some n := by rw [Int.toNat_natCast]; exact hn
    (repeat (first|refine ja ?_|refine jb ?_|refine jc ?_|refine jd ?_|refine je ?_|refine jf ?_|refine jg ?_|refine jh ?_|refine ji ?_|refine jj ?_|refine jk ?_|refine jl ?_|refine jm ?_|refine jn ?_|refine jo ?_|refine jp ?_|refine jq ?_|refine jr ?_|refine js ?_|refine jt ?_|refine ju ?_|refine jv ?_|refine jw ?_|refine jx ?_|refine jy ?_|refine jz ?_|refine jA ?_|refine jB ?_|refine jC ?_|refine jD ?_|refine jE ?_|refine jF ?_|refine jG ?_|refine jH ?_|refine jI ?_|refine jJ ?_|refine jK ?_|refine jL ?_|refine jM (by assumption) ?_|refine jN (by assumption) rfl ?_|refine jO (by assumption) ?_|refine jP (by assumption) rfl ?_|refine jQ ?_|refine jR ?_|refine jS ?_|refine jT ?_|refine jU (by assumption) rfl ?_))
    refine M.idxN_i hr1 rfl (by omega) (n := n) hn' (fun bb oo hc => ?_)
    have h0 := hc 0 (vi n.op) rfl
    (repeat (first|refine ja ?_|refine jb ?_|refine jc ?_|refine jd ?_|refine je ?_|refine jf ?_|refine jg ?_|refine jh ?_|refine ji ?_|refine jj ?_|refine jk ?_|refine jl ?_|refine jm ?_|refine jn ?_|refine jo ?_|refine jp ?_|refine jq ?_|refine jr ?_|refine js ?_|refine jt ?_|refine ju ?_|refine jv ?_|refine jw ?_|refine jx ?_|refine jy ?_|refine jz ?_|refine jA ?_|refine jB ?_|refine jC ?_|refine jD ?_|refine jE ?_|refine jF ?_|refine jG ?_|refine jH ?_|refine jI ?_|refine jJ ?_|refine jK ?_|refine jL ?_|refine jM (by assumption) ?_|refine jN (by assumption) rfl ?_|refine jO (by assumption) ?_|refine jP (by assumption) rfl ?_|refine jQ ?_|refine jR ?_|refine jS ?_|refine jT ?_|refine jU (by assumption) rfl ?_))
    by_cases h21 : n.op = 21
    · (repeat (first|refine ja ?_|refine jb ?_|refine jc ?_|refine jd ?_|refine je ?_|refine jf ?_|refine jg ?_|refine jh ?_|refine ji ?_|refine jj ?_|refine jk ?_|refine jl ?_|refine jm ?_|refine jn ?_|refine jo ?_|refine jp ?_|refine jq ?_|refine jr ?_|refine js ?_|refine jt ?_|refine ju ?_|refine jv ?_|refine jw ?_|refine jx ?_|refine jy ?_|refine jz ?_|refine jA ?_|refine jB ?_|refine jC ?_|refine jD ?_|refine jE ?_|refine jF ?_|refine jG ?_|refine jH ?_|refine jI ?_|refine jJ ?_|refine jK ?_|refine jL ?_|refine jM (by assumption) ?_|refine jN (by assumption) rfl ?_|refine jO (by assumption) ?_|refine jP (by assumption) rfl ?_|refine jQ ?_|refine jR ?_|refine jS ?_|refine jT ?_|refine jU (by assumption) rfl ?_))
      refine M.idxN_i hr1 rfl (by omega) (n := n) hn' (fun b2 o2 hc2 => ?_)
      have h2 := hc2 2 (vi n.a) rfl
      (repeat (first|refine ja ?_|refine jb ?_|refine jc ?_|refine jd ?_|refine je ?_|refine jf ?_|refine jg ?_|refine jh ?_|refine ji ?_|refine jj ?_|refine jk ?_|refine jl ?_|refine jm ?_|refine jn ?_|refine jo ?_|refine jp ?_|refine jq ?_|refine jr ?_|refine js ?_|refine jt ?_|refine ju ?_|refine jv ?_|refine jw ?_|refine jx ?_|refine jy ?_|refine jz ?_|refine jA ?_|refine jB ?_|refine jC ?_|refine jD ?_|refine jE ?_|refine jF ?_|refine jG ?_|refine jH ?_|refine jI ?_|refine jJ ?_|refine jK ?_|refine jL ?_|refine jM (by assumption) ?_|refine jN (by assumption) rfl ?_|refine jO (by assumption) ?_|refine jP (by assumption) rfl ?_|refine jQ ?_|refine jR ?_|refine jS ?_|refine jT ?_|refine jU (by assumption) rfl ?_))
      by_cases ha : n.a = x
      · (repeat (first|refine ja ?_|refine jb ?_|refine jc ?_|refine jd ?_|refine je ?_|refine jf ?_|refine jg ?_|refine jh ?_|refine ji ?_|refine jj ?_|refine jk ?_|refine jl ?_|refine jm ?_|refine jn ?_|refine jo ?_|refine jp ?_|refine jq ?_|refine jr ?_|refine js ?_|refine jt ?_|refine ju ?_|refine jv ?_|refine jw ?_|refine jx ?_|refine jy ?_|refine jz ?_|refine jA ?_|refine jB ?_|refine jC ?_|refine jD ?_|refine jE ?_|refine jF ?_|refine jG ?_|refine jH ?_|refine jI ?_|refine jJ ?_|refine jK ?_|refine jL ?_|refine jM (by assumption) ?_|refine jN (by assumption) rfl ?_|refine jO (by assumption) ?_|refine jP (by assumption) rfl ?_|refine jQ ?_|refine jR ?_|refine jS ?_|refine jT ?_|refine jU (by assumption) rfl ?_))
        refine M.idxN_i hr1 rfl (by omega) (n := n) hn' (fun b3 o3 hc3 => ?_)
        have h3 := hc3 1 (vi n.wd) rfl
        (repeat (first|refine ja ?_|refine jb ?_|refine jc ?_|refine jd ?_|refine je ?_|refine jf ?_|refine jg ?_|refine jh ?_|refine ji ?_|refine jj ?_|refine jk ?_|refine jl ?_|refine jm ?_|refine jn ?_|refine jo ?_|refine jp ?_|refine jq ?_|refine jr ?_|refine js ?_|refine jt ?_|refine ju ?_|refine jv ?_|refine jw ?_|refine jx ?_|refine jy ?_|refine jz ?_|refine jA ?_|refine jB ?_|refine jC ?_|refine jD ?_|refine jE ?_|refine jF ?_|refine jG ?_|refine jH ?_|refine jI ?_|refine jJ ?_|refine jK ?_|refine jL ?_|refine jM (by assumption) ?_|refine jN (by assumption) rfl ?_|refine jO (by assumption) ?_|refine jP (by assumption) rfl ?_|refine jQ ?_|refine jR ?_|refine jS ?_|refine jT ?_|refine jU (by assumption) rfl ?_))
        exact ⟨by rw [wdV_at hn ⟨h21, ha⟩ hno], k1⟩
      · (repeat (first|refine ja ?_|refine jb ?_|refine jc ?_|refine jd ?_|refine je ?_|refine jf ?_|refine jg ?_|refine jh ?_|refine ji ?_|refine jj ?_|refine jk ?_|refine jl ?_|refine jm ?_|refine jn ?_|refine jo ?_|refine jp ?_|refine jq ?_|refine jr ?_|refine js ?_|refine jt ?_|refine ju ?_|refine jv ?_|refine jw ?_|refine jx ?_|refine jy ?_|refine jz ?_|refine jA ?_|refine jB ?_|refine jC ?_|refine jD ?_|refine jE ?_|refine jF ?_|refine jG ?_|refine jH ?_|refine jI ?_|refine jJ ?_|refine jK ?_|refine jL ?_|refine jM (by assumption) ?_|refine jN (by assumption) rfl ?_|refine jO (by assumption) ?_|refine jP (by assumption) rfl ?_|refine jQ ?_|refine jR ?_|refine jS ?_|refine jT ?_|refine jU (by assumption) rfl ?_))
        exact hK (i + 1) _ _ (by omega) ⟨rfl, by omega, fun j m hj hm he => by
          rcases Nat.lt_or_ge j i with h | h
          · exact hno j m h hm he
          · have e : j = i := by omega
            subst e
            rw [hn] at hm; cases hm
            exact ha he.2, rfl⟩
    · (repeat (first|refine ja ?_|refine jb ?_|refine jc ?_|refine jd ?_|refine je ?_|refine jf ?_|refine jg ?_|refine jh ?_|refine ji ?_|refine jj ?_|refine jk ?_|refine jl ?_|refine jm ?_|refine jn ?_|refine jo ?_|refine jp ?_|refine jq ?_|refine jr ?_|refine js ?_|refine jt ?_|refine ju ?_|refine jv ?_|refine jw ?_|refine jx ?_|refine jy ?_|refine jz ?_|refine jA ?_|refine jB ?_|refine jC ?_|refine jD ?_|refine jE ?_|refine jF ?_|refine jG ?_|refine jH ?_|refine jI ?_|refine jJ ?_|refine jK ?_|refine jL ?_|refine jM (by assumption) ?_|refine jN (by assumption) rfl ?_|refine jO (by assumption) ?_|refine jP (by assumption) rfl ?_|refine jQ ?_|refine jR ?_|refine jS ?_|refine jT ?_|refine jU (by assumption) rfl ?_))
      refine hK (i + 1) _ _ (by omega) ⟨rfl, by omega, fun j m hj hm he => by
          rcases Nat.lt_or_ge j i with h | h
          · exact hno j m h hm he
          · have e : j = i := by omega
            subst e
            rw [hn] at hm; cases hm
            exact h21 he.1, rfl⟩
  · (repeat (first|refine ja ?_|refine jb ?_|refine jc ?_|refine jd ?_|refine je ?_|refine jf ?_|refine jg ?_|refine jh ?_|refine ji ?_|refine jj ?_|refine jk ?_|refine jl ?_|refine jm ?_|refine jn ?_|refine jo ?_|refine jp ?_|refine jq ?_|refine jr ?_|refine js ?_|refine jt ?_|refine ju ?_|refine jv ?_|refine jw ?_|refine jx ?_|refine jy ?_|refine jz ?_|refine jA ?_|refine jB ?_|refine jC ?_|refine jD ?_|refine jE ?_|refine jF ?_|refine jG ?_|refine jH ?_|refine jI ?_|refine jJ ?_|refine jK ?_|refine jL ?_|refine jM (by assumption) ?_|refine jN (by assumption) rfl ?_|refine jO (by assumption) ?_|refine jP (by assumption) rfl ?_|refine jQ ?_|refine jR ?_|refine jS ?_|refine jT ?_|refine jU (by assumption) rfl ?_))
    exact ⟨by rw [wdV_none (fun j m hj => hno j m (by have := (List.getElem?_eq_some_iff.1 hj).1; omega) hj)], k1⟩
theorem asrt_app (s t : Bt) : s ++ ([40, 97, 115, 115, 101, 114, 116, 32, 40, 61, 32] : List UInt8) ++ t ++ ([32] : List UInt8) ++ ([40, 95, 32, 98, 118, 49, 32, 49, 41] : List UInt8) ++ ([41, 41, 10] : List UInt8) = s ++ asrtB t := by
  unfold asrtB
  simp only [List.append_assoc]
theorem decl_app (s : Bt) (N : List Nd) (x : Int) : s ++ ([40, 100, 101, 99, 108, 97, 114, 101, 45, 102, 117, 110, 32, 120] : List UInt8) ++ numB x ++ ([32, 40, 41, 32, 40, 95, 32, 66, 105, 116, 86, 101, 99, 32] : List UInt8) ++ numB (wdV N x) ++ ([41, 41, 10] : List UInt8) = s ++ declB N x := by
  unfold declB
  simp only [List.append_assoc]
theorem rnum_ret (n : Int) (w : World) : Ret Try.prog 34 #[vi n] w (fun r w' => r = vs (numB n) ∧ Keep w w' No) := rnumber_ret n w
set_option maxHeartbeats 16000000 in
theorem rscript_ret {D2 : Nat → Prop} {cv : Value} {cs : List Int} (hd : RD w D v N most) (hG : GoodN N) (hN : N.length ≤ 100000) (hc : LV vi w D2 cv cs) (hcs : cs.length ≤ 1000) :
    Ret Try.prog 10 #[v, cv] w (fun r w' => r = .tuple #[vs (scrN N cs).1, vi (scrN N cs).2] ∧ Keep w w' No) := by
  have hc := hc.mono (D' := fun b => b < w.heap.size) (fun b hb _ => hb)
  obtain ⟨C, cc, rfl, hrc, _⟩ := hc
  obtain ⟨A, c, rfl, hr⟩ := id hd
  refine ok10 _ _ _ _ ?_
  unfold sh10
  refine M.new_i (l := [.slice A N.length c, vi most]) (fun w1 b1 k1 s1 => ?_)
  have q1 := k1.size
  refine M.loop_i (σ := Nat) (fun i vals w' => ∃ vo, vals = [vs (asrtsN N (cs.take i)), vo, vi i] ∧ i ≤ cs.length ∧ GI w' (w1.heap.size ≤ ·) vo (varsS N (cs.take i)) ∧ (varsS N (cs.take i)).length ≤ i * 100000 ∧ Blk w' w.heap.size [.slice A N.length c, vi most] ∧ (∀ x ∈ cs.take i, scrE N x = 0) ∧ Keep w w' No) (fun i => cs.length - i) 0
    ⟨_, rfl, by omega, GI.nil _ _, by simp [varsS], b1, fun x hx => by simp at hx, k1⟩ ?_
  rintro i vals w3 K ⟨vo, rfl, hi, g3, hvl, b3, he3, k3⟩ hK _
  simp only [List.getD_cons_zero, List.getD_cons_succ]
  by_cases hlt : i < cs.length
  · obtain ⟨e, hce⟩ : ∃ e, cs[i]? = some e := ⟨_, List.getElem?_eq_getElem hlt⟩
    have hce' : cs[(i : Int).toNat]? = some e := by rw [Int.toNat_natCast]; exact hce
    have et : cs.take (i + 1) = cs.take i ++ [e] := by rw [List.take_add_one, hce]; rfl
    have kd := Keep.drew w3 No
    (repeat (first|refine ja ?_|refine jb ?_|refine jc ?_|refine jd ?_|refine je ?_|refine jf ?_|refine jg ?_|refine jh ?_|refine ji ?_|refine jj ?_|refine jk ?_|refine jl ?_|refine jm ?_|refine jn ?_|refine jo ?_|refine jp ?_|refine jq ?_|refine jr ?_|refine js ?_|refine jt ?_|refine ju ?_|refine jv ?_|refine jw ?_|refine jx ?_|refine jy ?_|refine jz ?_|refine jA ?_|refine jB ?_|refine jC ?_|refine jD ?_|refine jE ?_|refine jF ?_|refine jG ?_|refine jH ?_|refine jI ?_|refine jJ ?_|refine jK ?_|refine jL ?_|refine jM (by assumption) ?_|refine jN (by assumption) rfl ?_|refine jO (by assumption) ?_|refine jP (by assumption) rfl ?_|refine jQ ?_|refine jR ?_|refine jS ?_|refine jT ?_|refine jU (by assumption) rfl ?_))
    have k4 := k3.trans kd (fun _ _ h => h)
    have b4 := b3.keep kd (fun h => h)
    have g4 := g3.keep kd (fun _ _ _ h => h)
    generalize w3.drew = w4 at k4 b4 g4 ⊢
    refine M.loadAll_i b4 rfl ?_
    refine M.idxLV_i (hrc.keep k4 (fun _ _ _ h => h)) rfl (by omega) (by omega) (x := e) hce' (fun bb oo hA hcc => ?_)
    (repeat (first|refine ja ?_|refine jb ?_|refine jc ?_|refine jd ?_|refine je ?_|refine jf ?_|refine jg ?_|refine jh ?_|refine ji ?_|refine jj ?_|refine jk ?_|refine jl ?_|refine jm ?_|refine jn ?_|refine jo ?_|refine jp ?_|refine jq ?_|refine jr ?_|refine js ?_|refine jt ?_|refine ju ?_|refine jv ?_|refine jw ?_|refine jx ?_|refine jy ?_|refine jz ?_|refine jA ?_|refine jB ?_|refine jC ?_|refine jD ?_|refine jE ?_|refine jF ?_|refine jG ?_|refine jH ?_|refine jI ?_|refine jJ ?_|refine jK ?_|refine jL ?_|refine jM (by assumption) ?_|refine jN (by assumption) rfl ?_|refine jO (by assumption) ?_|refine jP (by assumption) rfl ?_|refine jQ ?_|refine jR ?_|refine jS ?_|refine jT ?_|refine jU (by assumption) rfl ?_))
    refine M.call_i (ris_ret (hd.keep k4 (fun _ _ _ h => h)) e) ?_; rintro _ w5 ⟨rfl, k5⟩
    have k05 := k4.trans k5 (fun _ _ h => h)
    have b5 := b4.keep k5 (fun h => h)
    have g5 := g4.keep k5 (fun _ _ _ h => h)
    refine M.not_i ?_
    cases hid : isN N e with
    | false =>
      have e2 : scrE N e = 11 := by unfold scrE; rw [if_pos hid]
      (repeat (first|refine ja ?_|refine jb ?_|refine jc ?_|refine jd ?_|refine je ?_|refine jf ?_|refine jg ?_|refine jh ?_|refine ji ?_|refine jj ?_|refine jk ?_|refine jl ?_|refine jm ?_|refine jn ?_|refine jo ?_|refine jp ?_|refine jq ?_|refine jr ?_|refine js ?_|refine jt ?_|refine ju ?_|refine jv ?_|refine jw ?_|refine jx ?_|refine jy ?_|refine jz ?_|refine jA ?_|refine jB ?_|refine jC ?_|refine jD ?_|refine jE ?_|refine jF ?_|refine jG ?_|refine jH ?_|refine jI ?_|refine jJ ?_|refine jK ?_|refine jL ?_|refine jM (by assumption) ?_|refine jN (by assumption) rfl ?_|refine jO (by assumption) ?_|refine jP (by assumption) rfl ?_|refine jQ ?_|refine jR ?_|refine jS ?_|refine jT ?_|refine jU (by assumption) rfl ?_))
      refine ⟨?_, k05⟩
      rw [find_take hce he3 (by rw [e2]; decide), e2]
    | true =>
      have e11 : (smtN N e).2 = 0 ∨ (smtN N e).2 = 8 := by
        unfold smtN
        rw [hid, if_neg (by decide)]
        split
        · exact .inl rfl
        · exact .inr rfl
      have e2 : scrE N e = if wdN N e ≠ 1 then 2 else (smtN N e).2 := by unfold scrE; rw [hid, if_neg (by decide)]
      have hl := smtN_len N e
      have kd := Keep.drew w5 No
      (repeat (first|refine ja ?_|refine jb ?_|refine jc ?_|refine jd ?_|refine je ?_|refine jf ?_|refine jg ?_|refine jh ?_|refine ji ?_|refine jj ?_|refine jk ?_|refine jl ?_|refine jm ?_|refine jn ?_|refine jo ?_|refine jp ?_|refine jq ?_|refine jr ?_|refine js ?_|refine jt ?_|refine ju ?_|refine jv ?_|refine jw ?_|refine jx ?_|refine jy ?_|refine jz ?_|refine jA ?_|refine jB ?_|refine jC ?_|refine jD ?_|refine jE ?_|refine jF ?_|refine jG ?_|refine jH ?_|refine jI ?_|refine jJ ?_|refine jK ?_|refine jL ?_|refine jM (by assumption) ?_|refine jN (by assumption) rfl ?_|refine jO (by assumption) ?_|refine jP (by assumption) rfl ?_|refine jQ ?_|refine jR ?_|refine jS ?_|refine jT ?_|refine jU (by assumption) rfl ?_))
      have k6 := k05.trans kd (fun _ _ h => h)
      have b6 := b5.keep kd (fun h => h)
      have g6 := g5.keep kd (fun _ _ _ h => h)
      generalize w5.drew = w6 at k6 b6 g6 ⊢
      refine M.loadAll_i b6 rfl ?_
      refine M.idxLV_i (hrc.keep k6 (fun _ _ _ h => h)) rfl (by omega) (by omega) (x := e) hce' (fun bb oo hA hcc => ?_)
      (repeat (first|refine ja ?_|refine jb ?_|refine jc ?_|refine jd ?_|refine je ?_|refine jf ?_|refine jg ?_|refine jh ?_|refine ji ?_|refine jj ?_|refine jk ?_|refine jl ?_|refine jm ?_|refine jn ?_|refine jo ?_|refine jp ?_|refine jq ?_|refine jr ?_|refine js ?_|refine jt ?_|refine ju ?_|refine jv ?_|refine jw ?_|refine jx ?_|refine jy ?_|refine jz ?_|refine jA ?_|refine jB ?_|refine jC ?_|refine jD ?_|refine jE ?_|refine jF ?_|refine jG ?_|refine jH ?_|refine jI ?_|refine jJ ?_|refine jK ?_|refine jL ?_|refine jM (by assumption) ?_|refine jN (by assumption) rfl ?_|refine jO (by assumption) ?_|refine jP (by assumption) rfl ?_|refine jQ ?_|refine jR ?_|refine jS ?_|refine jT ?_|refine jU (by assumption) rfl ?_))
      refine M.call_i (rwidth_ret (hd.keep k6 (fun _ _ _ h => h)) e) ?_; rintro _ w7 ⟨rfl, k7⟩
      have k07 := k6.trans k7 (fun _ _ h => h)
      have b7 := b6.keep k7 (fun h => h)
      have g7 := g6.keep k7 (fun _ _ _ h => h)
      by_cases hw : wdN N e = 1
      · rw [if_neg (by omega)] at e2
        have kd := Keep.drew w7 No
        (repeat (first|refine ja ?_|refine jb ?_|refine jc ?_|refine jd ?_|refine je ?_|refine jf ?_|refine jg ?_|refine jh ?_|refine ji ?_|refine jj ?_|refine jk ?_|refine jl ?_|refine jm ?_|refine jn ?_|refine jo ?_|refine jp ?_|refine jq ?_|refine jr ?_|refine js ?_|refine jt ?_|refine ju ?_|refine jv ?_|refine jw ?_|refine jx ?_|refine jy ?_|refine jz ?_|refine jA ?_|refine jB ?_|refine jC ?_|refine jD ?_|refine jE ?_|refine jF ?_|refine jG ?_|refine jH ?_|refine jI ?_|refine jJ ?_|refine jK ?_|refine jL ?_|refine jM (by assumption) ?_|refine jN (by assumption) rfl ?_|refine jO (by assumption) ?_|refine jP (by assumption) rfl ?_|refine jQ ?_|refine jR ?_|refine jS ?_|refine jT ?_|refine jU (by assumption) rfl ?_))
        have k8 := k07.trans kd (fun _ _ h => h)
        have b8 := b7.keep kd (fun h => h)
        have g8 := g7.keep kd (fun _ _ _ h => h)
        generalize w7.drew = w8 at k8 b8 g8 ⊢
        refine M.loadAll_i b8 rfl ?_
        refine M.idxLV_i (hrc.keep k8 (fun _ _ _ h => h)) rfl (by omega) (by omega) (x := e) hce' (fun bb oo hA hcc => ?_)
        (repeat (first|refine ja ?_|refine jb ?_|refine jc ?_|refine jd ?_|refine je ?_|refine jf ?_|refine jg ?_|refine jh ?_|refine ji ?_|refine jj ?_|refine jk ?_|refine jl ?_|refine jm ?_|refine jn ?_|refine jo ?_|refine jp ?_|refine jq ?_|refine jr ?_|refine js ?_|refine jt ?_|refine ju ?_|refine jv ?_|refine jw ?_|refine jx ?_|refine jy ?_|refine jz ?_|refine jA ?_|refine jB ?_|refine jC ?_|refine jD ?_|refine jE ?_|refine jF ?_|refine jG ?_|refine jH ?_|refine jI ?_|refine jJ ?_|refine jK ?_|refine jL ?_|refine jM (by assumption) ?_|refine jN (by assumption) rfl ?_|refine jO (by assumption) ?_|refine jP (by assumption) rfl ?_|refine jQ ?_|refine jR ?_|refine jS ?_|refine jT ?_|refine jU (by assumption) rfl ?_))
        refine M.call_i (rterm_ret (hd.keep k8 (fun _ _ _ h => h)) hG hN e) ?_; rintro _ w9 ⟨rfl, k9⟩
        have k09 := k8.trans k9 (fun _ _ h => h)
        have b9 := b8.keep k9 (fun h => h)
        have g9 := g8.keep k9 (fun _ _ _ h => h)
        refine M.extract_i (v := vs (smtN N e).1) rfl ?_
        refine M.extract_i (v := vi (smtN N e).2) rfl ?_
        rcases e11 with e11 | e11
        · rw [e11] at e2
          have hal := asrtsN_len N (cs.take i)
          have htl : (cs.take i).length ≤ 1000 := by rw [List.length_take]; omega
          (repeat (first|refine ja ?_|refine jb ?_|refine jc ?_|refine jd ?_|refine je ?_|refine jf ?_|refine jg ?_|refine jh ?_|refine ji ?_|refine jj ?_|refine jk ?_|refine jl ?_|refine jm ?_|refine jn ?_|refine jo ?_|refine jp ?_|refine jq ?_|refine jr ?_|refine js ?_|refine jt ?_|refine ju ?_|refine jv ?_|refine jw ?_|refine jx ?_|refine jy ?_|refine jz ?_|refine jA ?_|refine jB ?_|refine jC ?_|refine jD ?_|refine jE ?_|refine jF ?_|refine jG ?_|refine jH ?_|refine jI ?_|refine jJ ?_|refine jK ?_|refine jL ?_|refine jM (by assumption) ?_|refine jN (by assumption) rfl ?_|refine jO (by assumption) ?_|refine jP (by assumption) rfl ?_|refine jQ ?_|refine jR ?_|refine jS ?_|refine jT ?_|refine jU (by assumption) rfl ?_))
          refine M.str_i (by simp only [List.length_append, List.length_cons, List.length_nil]; omega) ?_
          refine M.str_i (by simp only [List.length_append, List.length_cons, List.length_nil]; omega) ?_
          refine M.str_i (by simp only [List.length_append, List.length_cons, List.length_nil]; omega) ?_
          refine M.str_i (by simp only [List.length_append, List.length_cons, List.length_nil]; omega) ?_
          refine M.str_i (by simp only [List.length_append, List.length_cons, List.length_nil]; omega) ?_
          have kd := Keep.drew w9 No
          (repeat (first|refine ja ?_|refine jb ?_|refine jc ?_|refine jd ?_|refine je ?_|refine jf ?_|refine jg ?_|refine jh ?_|refine ji ?_|refine jj ?_|refine jk ?_|refine jl ?_|refine jm ?_|refine jn ?_|refine jo ?_|refine jp ?_|refine jq ?_|refine jr ?_|refine js ?_|refine jt ?_|refine ju ?_|refine jv ?_|refine jw ?_|refine jx ?_|refine jy ?_|refine jz ?_|refine jA ?_|refine jB ?_|refine jC ?_|refine jD ?_|refine jE ?_|refine jF ?_|refine jG ?_|refine jH ?_|refine jI ?_|refine jJ ?_|refine jK ?_|refine jL ?_|refine jM (by assumption) ?_|refine jN (by assumption) rfl ?_|refine jO (by assumption) ?_|refine jP (by assumption) rfl ?_|refine jQ ?_|refine jR ?_|refine jS ?_|refine jT ?_|refine jU (by assumption) rfl ?_))
          have k10 := k09.trans kd (fun _ _ h => h)
          have b10 := b9.keep kd (fun h => h)
          have g10 := g9.keep kd (fun _ _ _ h => h)
          generalize w9.drew = w10 at k10 b10 g10 ⊢
          refine M.loadAll_i b10 rfl ?_
          refine M.idxLV_i (hrc.keep k10 (fun _ _ _ h => h)) rfl (by omega) (by omega) (x := e) hce' (fun bb oo hA hcc => ?_)
          (repeat (first|refine ja ?_|refine jb ?_|refine jc ?_|refine jd ?_|refine je ?_|refine jf ?_|refine jg ?_|refine jh ?_|refine ji ?_|refine jj ?_|refine jk ?_|refine jl ?_|refine jm ?_|refine jn ?_|refine jo ?_|refine jp ?_|refine jq ?_|refine jr ?_|refine js ?_|refine jt ?_|refine ju ?_|refine jv ?_|refine jw ?_|refine jx ?_|refine jy ?_|refine jz ?_|refine jA ?_|refine jB ?_|refine jC ?_|refine jD ?_|refine jE ?_|refine jF ?_|refine jG ?_|refine jH ?_|refine jI ?_|refine jJ ?_|refine jK ?_|refine jL ?_|refine jM (by assumption) ?_|refine jN (by assumption) rfl ?_|refine jO (by assumption) ?_|refine jP (by assumption) rfl ?_|refine jQ ?_|refine jR ?_|refine jS ?_|refine jT ?_|refine jU (by assumption) rfl ?_))
          refine M.call_i (rvars_ret (hd.keep k10 (fun _ _ _ h => h)) (by omega) hG e) ?_; rintro rv w11 ⟨g11, k11⟩
          have k011 := k10.trans k11 (fun _ _ h => h)
          have q10 : w1.heap.size ≤ w10.heap.size := by have := b10.lt; have := k10.size; omega
          obtain ⟨B, cb, rfl, hrv, _⟩ := GI.lv g11
          have hvN : (varsN N e).length ≤ N.length := varsN_len
          refine M.appendI_i rfl (g10.keep k11 (fun _ _ _ h => h)) hrv rfl (by omega) (fun v12 w12 g12 k12 => ?_)
          have q11 := k11.size
          rw [← varsS_snoc, ← et] at g12
          rw [asrt_app, ← asrtsN_snoc, ← et]
          (repeat (first|refine ja ?_|refine jb ?_|refine jc ?_|refine jd ?_|refine je ?_|refine jf ?_|refine jg ?_|refine jh ?_|refine ji ?_|refine jj ?_|refine jk ?_|refine jl ?_|refine jm ?_|refine jn ?_|refine jo ?_|refine jp ?_|refine jq ?_|refine jr ?_|refine js ?_|refine jt ?_|refine ju ?_|refine jv ?_|refine jw ?_|refine jx ?_|refine jy ?_|refine jz ?_|refine jA ?_|refine jB ?_|refine jC ?_|refine jD ?_|refine jE ?_|refine jF ?_|refine jG ?_|refine jH ?_|refine jI ?_|refine jJ ?_|refine jK ?_|refine jL ?_|refine jM (by assumption) ?_|refine jN (by assumption) rfl ?_|refine jO (by assumption) ?_|refine jP (by assumption) rfl ?_|refine jQ ?_|refine jR ?_|refine jS ?_|refine jT ?_|refine jU (by assumption) rfl ?_))
          refine hK (i + 1) _ _ (by omega) ⟨v12, rfl, by omega, g12.mono (fun b hb h => ?_), ?_, (b10.keep k11 (fun h => h)).keep k12 (fun h => by omega), ?_, k011.trans k12 (fun b hb h => by omega)⟩
          · rcases h with h | h <;> omega
          · rw [et, varsS_snoc, List.length_append]; omega
          · intro x hx
            rw [et] at hx
            rcases List.mem_append.1 hx with hx | hx
            · exact he3 x hx
            · simp only [List.mem_singleton] at hx
              subst hx; exact e2
        · rw [e11] at e2
          (repeat (first|refine ja ?_|refine jb ?_|refine jc ?_|refine jd ?_|refine je ?_|refine jf ?_|refine jg ?_|refine jh ?_|refine ji ?_|refine jj ?_|refine jk ?_|refine jl ?_|refine jm ?_|refine jn ?_|refine jo ?_|refine jp ?_|refine jq ?_|refine jr ?_|refine js ?_|refine jt ?_|refine ju ?_|refine jv ?_|refine jw ?_|refine jx ?_|refine jy ?_|refine jz ?_|refine jA ?_|refine jB ?_|refine jC ?_|refine jD ?_|refine jE ?_|refine jF ?_|refine jG ?_|refine jH ?_|refine jI ?_|refine jJ ?_|refine jK ?_|refine jL ?_|refine jM (by assumption) ?_|refine jN (by assumption) rfl ?_|refine jO (by assumption) ?_|refine jP (by assumption) rfl ?_|refine jQ ?_|refine jR ?_|refine jS ?_|refine jT ?_|refine jU (by assumption) rfl ?_))
          refine ⟨?_, k09⟩
          rw [find_take hce he3 (by rw [e2]; decide), e2, e11]
      · rw [if_pos hw] at e2
        (repeat (first|refine ja ?_|refine jb ?_|refine jc ?_|refine jd ?_|refine je ?_|refine jf ?_|refine jg ?_|refine jh ?_|refine ji ?_|refine jj ?_|refine jk ?_|refine jl ?_|refine jm ?_|refine jn ?_|refine jo ?_|refine jp ?_|refine jq ?_|refine jr ?_|refine js ?_|refine jt ?_|refine ju ?_|refine jv ?_|refine jw ?_|refine jx ?_|refine jy ?_|refine jz ?_|refine jA ?_|refine jB ?_|refine jC ?_|refine jD ?_|refine jE ?_|refine jF ?_|refine jG ?_|refine jH ?_|refine jI ?_|refine jJ ?_|refine jK ?_|refine jL ?_|refine jM (by assumption) ?_|refine jN (by assumption) rfl ?_|refine jO (by assumption) ?_|refine jP (by assumption) rfl ?_|refine jQ ?_|refine jR ?_|refine jS ?_|refine jT ?_|refine jU (by assumption) rfl ?_))
        refine ⟨?_, k07⟩
        rw [find_take hce he3 (by rw [e2]; decide), e2]
  · have e : i = cs.length := by omega
    subst e
    rw [List.take_length] at g3 hvl he3
    have hfin := find_all he3
    have hal := asrtsN_len N cs
    (repeat (first|refine ja ?_|refine jb ?_|refine jc ?_|refine jd ?_|refine je ?_|refine jf ?_|refine jg ?_|refine jh ?_|refine ji ?_|refine jj ?_|refine jk ?_|refine jl ?_|refine jm ?_|refine jn ?_|refine jo ?_|refine jp ?_|refine jq ?_|refine jr ?_|refine js ?_|refine jt ?_|refine ju ?_|refine jv ?_|refine jw ?_|refine jx ?_|refine jy ?_|refine jz ?_|refine jA ?_|refine jB ?_|refine jC ?_|refine jD ?_|refine jE ?_|refine jF ?_|refine jG ?_|refine jH ?_|refine jI ?_|refine jJ ?_|refine jK ?_|refine jL ?_|refine jM (by assumption) ?_|refine jN (by assumption) rfl ?_|refine jO (by assumption) ?_|refine jP (by assumption) rfl ?_|refine jQ ?_|refine jR ?_|refine jS ?_|refine jT ?_|refine jU (by assumption) rfl ?_))
    rw [List.take_length]
    generalize varsS N cs = l at g3 hfin hvl
    refine M.call_i (sorted_ret (GI.lv g3) (by unfold Few; omega)) ?_; rintro sv w4 ⟨g4, k4⟩
    have k04 := k3.trans k4 (fun _ _ h => h)
    have b4 := b3.keep k4 (fun h => h)
    have hsl := len_srt l
    obtain ⟨S, cs', rfl, hrs, _⟩ := GI.lv g4
    generalize hm : srt l = m at hrs hfin hsl
    refine M.loop_i (σ := Nat) (fun i vals w' => vals = [vs (([40, 115, 101, 116, 45, 108, 111, 103, 105, 99, 32, 81, 70, 95, 66, 86, 41, 10] : List UInt8) ++ (m.take i).flatMap (declB N)), vi i] ∧ i ≤ m.length ∧ Keep w4 w' No) (fun i => m.length - i) 0 ⟨rfl, by omega, Keep.refl _ _⟩ ?_
    rintro i vals w5 K2 ⟨rfl, hi2, k5⟩ hK2 _
    simp only [List.getD_cons_zero, List.getD_cons_succ]
    have hul : ((m.take i).flatMap (declB N)).length ≤ 100000000 * 100 := by
      have h1 := flatB_len (f := declB N) (m := 100) (l := m.take i) (fun x _ => declB_len N x)
      have h2 : (m.take i).length ≤ 100000000 := by rw [List.length_take]; omega
      omega
    by_cases hlt2 : i < m.length
    · obtain ⟨x, hx⟩ : ∃ x, m[i]? = some x := ⟨_, List.getElem?_eq_getElem hlt2⟩
      have et : (m.take (i + 1)).flatMap (declB N) = (m.take i).flatMap (declB N) ++ declB N x := by
        rw [List.take_add_one, hx, List.flatMap_append]
        simp
      have kd := Keep.drew w5 No
      have hK3 : ∀ t w', t = vs (([40, 115, 101, 116, 45, 108, 111, 103, 105, 99, 32, 81, 70, 95, 66, 86, 41, 10] : List UInt8) ++ (m.take i).flatMap (declB N) ++ declB N x) → Keep w4 w' No → K2 [t, vi ((i + 1 : Nat) : Int)] w' := fun t w' h1 h2 => hK2 (i + 1) _ _ (by omega) ⟨by rw [h1, et, List.append_assoc], by omega, h2⟩
      (repeat (first|refine ja ?_|refine jb ?_|refine jc ?_|refine jd ?_|refine je ?_|refine jf ?_|refine jg ?_|refine jh ?_|refine ji ?_|refine jj ?_|refine jk ?_|refine jl ?_|refine jm ?_|refine jn ?_|refine jo ?_|refine jp ?_|refine jq ?_|refine jr ?_|refine js ?_|refine jt ?_|refine ju ?_|refine jv ?_|refine jw ?_|refine jx ?_|refine jy ?_|refine jz ?_|refine jA ?_|refine jB ?_|refine jC ?_|refine jD ?_|refine jE ?_|refine jF ?_|refine jG ?_|refine jH ?_|refine jI ?_|refine jJ ?_|refine jK ?_|refine jL ?_|refine jM (by assumption) ?_|refine jN (by assumption) rfl ?_|refine jO (by assumption) ?_|refine jP (by assumption) rfl ?_|refine jQ ?_|refine jR ?_|refine jS ?_|refine jT ?_|refine jU (by assumption) rfl ?_))
      have hsH : (([40, 115, 101, 116, 45, 108, 111, 103, 105, 99, 32, 81, 70, 95, 66, 86, 41, 10] : List UInt8) ++ (m.take i).flatMap (declB N)).length ≤ 20000000000 := by
        simp only [List.length_append, List.length_cons, List.length_nil]; omega
      generalize (([40, 115, 101, 116, 45, 108, 111, 103, 105, 99, 32, 81, 70, 95, 66, 86, 41, 10] : List UInt8) ++ (m.take i).flatMap (declB N)) = sH at hK3 hsH ⊢
      have hn1 := numB_len x
      have hn2 := numB_len (wdV N x)
      have kk := k5.trans kd (fun _ _ h => h)
      have bb := (b4.keep k5 (fun h => h)).keep kd (fun h => h)
      have hr6 := (hrs.keep k5 (fun _ _ _ h => h)).keep kd (fun _ _ _ h => h)
      have hd6 := ((hd.keep k04 (fun _ _ _ h => h)).keep k5 (fun _ _ _ h => h)).keep kd (fun _ _ _ h => h)
      generalize w5.drew = w6 at kk bb hr6 hd6 ⊢
      have hx' : m[(i : Int).toNat]? = some x := by rw [Int.toNat_natCast]; exact hx
      refine M.str_i (by simp only [List.length_append, List.length_cons, List.length_nil]; omega) ?_
      refine M.idxLV_i hr6 rfl (by omega) (by omega) (x := x) hx' (fun a1 o1 hA1 c1 => ?_)
      refine M.load_i c1 ?_
      refine M.loadAll_i bb rfl ?_
      refine M.idxLV_i hr6 rfl (by omega) (by omega) (x := x) hx' (fun a2 o2 hA2 c2 => ?_)
      refine M.load_i c2 ?_
      clear hr6 hrs hrc hr
      repeat' (first
        | refine M.st_i c1 ?_
        | refine M.st_i c2 ?_
        | refine M.stAll_i bb rfl ?_
        | refine M.str_i (by simp only [List.length_append, List.length_cons, List.length_nil]; omega) ?_
        | (refine M.call_i (rnumber_ret _ _) ?_; rintro _ w' ⟨rfl, k'⟩; have kk := kk.trans k' (fun _ _ h => h); have bb := bb.keep k' (fun h => h); have c1 := k'.cell (fun h => h) c1; have c2 := k'.cell (fun h => h) c2; have hd6 := hd6.keep k' (fun _ _ _ h => h))
        | (refine M.call_i (rwidth54_ret hd6 hN _) ?_; rintro _ w' ⟨rfl, k'⟩; have kk := kk.trans k' (fun _ _ h => h); have bb := bb.keep k' (fun h => h); have c1 := k'.cell (fun h => h) c1; have c2 := k'.cell (fun h => h) c2; have hd6 := hd6.keep k' (fun _ _ _ h => h))
        | (first|refine ja ?_|refine jb ?_|refine jc ?_|refine jd ?_|refine je ?_|refine jf ?_|refine jg ?_|refine jh ?_|refine ji ?_|refine jj ?_|refine jk ?_|refine jl ?_|refine jm ?_|refine jn ?_|refine jo ?_|refine jp ?_|refine jq ?_|refine jr ?_|refine js ?_|refine jt ?_|refine ju ?_|refine jv ?_|refine jw ?_|refine jx ?_|refine jy ?_|refine jz ?_|refine jA ?_|refine jB ?_|refine jC ?_|refine jD ?_|refine jE ?_|refine jF ?_|refine jG ?_|refine jH ?_|refine jI ?_|refine jJ ?_|refine jK ?_|refine jL ?_|refine jM (by assumption) ?_|refine jN (by assumption) rfl ?_|refine jO (by assumption) ?_|refine jP (by assumption) rfl ?_|refine jQ ?_|refine jR ?_|refine jS ?_|refine jT ?_|refine jU (by assumption) rfl ?_)
        | exact hK3 _ _ (by rw [decl_app]) kk
        | refine ⟨?_, ?_⟩)
    · have e : i = m.length := by omega
      subst e
      rw [List.take_length] at hul
      (repeat (first|refine ja ?_|refine jb ?_|refine jc ?_|refine jd ?_|refine je ?_|refine jf ?_|refine jg ?_|refine jh ?_|refine ji ?_|refine jj ?_|refine jk ?_|refine jl ?_|refine jm ?_|refine jn ?_|refine jo ?_|refine jp ?_|refine jq ?_|refine jr ?_|refine js ?_|refine jt ?_|refine ju ?_|refine jv ?_|refine jw ?_|refine jx ?_|refine jy ?_|refine jz ?_|refine jA ?_|refine jB ?_|refine jC ?_|refine jD ?_|refine jE ?_|refine jF ?_|refine jG ?_|refine jH ?_|refine jI ?_|refine jJ ?_|refine jK ?_|refine jL ?_|refine jM (by assumption) ?_|refine jN (by assumption) rfl ?_|refine jO (by assumption) ?_|refine jP (by assumption) rfl ?_|refine jQ ?_|refine jR ?_|refine jS ?_|refine jT ?_|refine jU (by assumption) rfl ?_))
      rw [List.take_length]
      refine M.str_i (by simp only [List.length_append, List.length_cons, List.length_nil]; omega) ?_
      refine M.str_i (by simp only [List.length_append, List.length_cons, List.length_nil]; omega) ?_
      exact ⟨by rw [hfin], k04.trans k5 (fun _ _ h => h)⟩
end
set_option maxHeartbeats 4000000 in
theorem smtlibScripts_ret {w : World} {D D2 : Nat → Prop} {lv cv : Value} {l : List Nd} {cs : List Int} (hl : LN Nd.cells w D lv l) (hc : LV vi w D2 cv cs) :
    Ret Try.prog 4 #[lv, cv] w (fun r w' => r = .bool true ∧ Keep w w' No) := by
  have hc := hc.mono (D' := fun b => b < w.heap.size) (fun b hb _ => hb)
  obtain ⟨A0, c0, rfl, _, _⟩ := id hl
  obtain ⟨C0, cc, rfl, _, _⟩ := id hc
  refine ok4 _ _ _ _ ?_
  unfold sh4
  by_cases h60 : 60 < l.length
  · (repeat (first|refine ja ?_|refine jb ?_|refine jc ?_|refine jd ?_|refine je ?_|refine jf ?_|refine jg ?_|refine jh ?_|refine ji ?_|refine jj ?_|refine jk ?_|refine jl ?_|refine jm ?_|refine jn ?_|refine jo ?_|refine jp ?_|refine jq ?_|refine jr ?_|refine js ?_|refine jt ?_|refine ju ?_|refine jv ?_|refine jw ?_|refine jx ?_|refine jy ?_|refine jz ?_|refine jA ?_|refine jB ?_|refine jC ?_|refine jD ?_|refine jE ?_|refine jF ?_|refine jG ?_|refine jH ?_|refine jI ?_|refine jJ ?_|refine jK ?_|refine jL ?_|refine jM (by assumption) ?_|refine jN (by assumption) rfl ?_|refine jO (by assumption) ?_|refine jP (by assumption) rfl ?_|refine jQ ?_|refine jR ?_|refine jS ?_|refine jT ?_|refine jU (by assumption) rfl ?_))
    refine M.call_i (awake54_ret w) ?_; rintro _ w1 ⟨rfl, k1⟩
    exact ⟨rfl, k1⟩
  by_cases h20 : 20 < cs.length
  · (repeat (first|refine ja ?_|refine jb ?_|refine jc ?_|refine jd ?_|refine je ?_|refine jf ?_|refine jg ?_|refine jh ?_|refine ji ?_|refine jj ?_|refine jk ?_|refine jl ?_|refine jm ?_|refine jn ?_|refine jo ?_|refine jp ?_|refine jq ?_|refine jr ?_|refine js ?_|refine jt ?_|refine ju ?_|refine jv ?_|refine jw ?_|refine jx ?_|refine jy ?_|refine jz ?_|refine jA ?_|refine jB ?_|refine jC ?_|refine jD ?_|refine jE ?_|refine jF ?_|refine jG ?_|refine jH ?_|refine jI ?_|refine jJ ?_|refine jK ?_|refine jL ?_|refine jM (by assumption) ?_|refine jN (by assumption) rfl ?_|refine jO (by assumption) ?_|refine jP (by assumption) rfl ?_|refine jQ ?_|refine jR ?_|refine jS ?_|refine jT ?_|refine jU (by assumption) rfl ?_))
    refine M.call_i (awake54_ret w) ?_; rintro _ w1 ⟨rfl, k1⟩
    exact ⟨rfl, k1⟩
  (repeat (first|refine ja ?_|refine jb ?_|refine jc ?_|refine jd ?_|refine je ?_|refine jf ?_|refine jg ?_|refine jh ?_|refine ji ?_|refine jj ?_|refine jk ?_|refine jl ?_|refine jm ?_|refine jn ?_|refine jo ?_|refine jp ?_|refine jq ?_|refine jr ?_|refine js ?_|refine jt ?_|refine ju ?_|refine jv ?_|refine jw ?_|refine jx ?_|refine jy ?_|refine jz ?_|refine jA ?_|refine jB ?_|refine jC ?_|refine jD ?_|refine jE ?_|refine jF ?_|refine jG ?_|refine jH ?_|refine jI ?_|refine jJ ?_|refine jK ?_|refine jL ?_|refine jM (by assumption) ?_|refine jN (by assumption) rfl ?_|refine jO (by assumption) ?_|refine jP (by assumption) rfl ?_|refine jQ ?_|refine jR ?_|refine jS ?_|refine jT ?_|refine jU (by assumption) rfl ?_))
  refine M.call_i (build_ret hl (by omega) 1000) ?_; rintro _ w3 ⟨F, p, v, N, rfl, hd, hr, hF, k3⟩
  have hNl := hd.len.1
  have hG := hd.good
  refine M.extract_i (v := ptr p) rfl ?_
  refine M.extract_i (v := v) rfl ?_
  refine M.new_i (l := [.slice none 0 0, vi 0]) (fun w4 b4 k4 s4 => ?_)
  obtain ⟨X, xc, rfl, _⟩ := id hr
  refine M.storeAll_i b4 rfl rfl (smtTwo _ _ rfl rfl) (fun w5 b5 k5 s5 => ?_)
  have k35 : Keep w3 w5 No := k4.trans k5 (fun b hb h => by have h : b = w3.heap.size := h; omega)
  have hd5 := hd.keepN k35
  have hr5 := hr.keep k35 (fun _ _ _ h => h)
  have k05 := k3.trans k35 (fun _ _ h => h)
  have hc5 := hc.keep k05 (fun _ _ _ h => h)
  (repeat (first|refine ja ?_|refine jb ?_|refine jc ?_|refine jd ?_|refine je ?_|refine jf ?_|refine jg ?_|refine jh ?_|refine ji ?_|refine jj ?_|refine jk ?_|refine jl ?_|refine jm ?_|refine jn ?_|refine jo ?_|refine jp ?_|refine jq ?_|refine jr ?_|refine js ?_|refine jt ?_|refine ju ?_|refine jv ?_|refine jw ?_|refine jx ?_|refine jy ?_|refine jz ?_|refine jA ?_|refine jB ?_|refine jC ?_|refine jD ?_|refine jE ?_|refine jF ?_|refine jG ?_|refine jH ?_|refine jI ?_|refine jJ ?_|refine jK ?_|refine jL ?_|refine jM (by assumption) ?_|refine jN (by assumption) rfl ?_|refine jO (by assumption) ?_|refine jP (by assumption) rfl ?_|refine jQ ?_|refine jR ?_|refine jS ?_|refine jT ?_|refine jU (by assumption) rfl ?_))
  refine M.call_i (script_ret hd5 hc5 (by omega)) ?_; rintro _ w8 ⟨rfl, k8⟩
  refine M.extract_i (v := vs (scrN N cs).1) rfl ?_
  refine M.extract_i (v := vi (scrN N cs).2) rfl ?_
  have b8 := b5.keep k8 (fun h => h)
  refine M.loadAll_i b8 rfl ?_
  refine M.call_i (rscript_ret (hr5.keep k8 (fun _ _ _ h => h)) hG (by omega) (hc5.keep k8 (fun _ _ _ h => h)) (by omega)) ?_; rintro _ w9 ⟨rfl, k9⟩
  refine M.extract_i (v := vs (scrN N cs).1) rfl ?_
  refine M.extract_i (v := vi (scrN N cs).2) rfl ?_
  refine M.seq_i ?_
  rw [decide_eq_true rfl]
  (repeat (first|refine ja ?_|refine jb ?_|refine jc ?_|refine jd ?_|refine je ?_|refine jf ?_|refine jg ?_|refine jh ?_|refine ji ?_|refine jj ?_|refine jk ?_|refine jl ?_|refine jm ?_|refine jn ?_|refine jo ?_|refine jp ?_|refine jq ?_|refine jr ?_|refine js ?_|refine jt ?_|refine ju ?_|refine jv ?_|refine jw ?_|refine jx ?_|refine jy ?_|refine jz ?_|refine jA ?_|refine jB ?_|refine jC ?_|refine jD ?_|refine jE ?_|refine jF ?_|refine jG ?_|refine jH ?_|refine jI ?_|refine jJ ?_|refine jK ?_|refine jL ?_|refine jM (by assumption) ?_|refine jN (by assumption) rfl ?_|refine jO (by assumption) ?_|refine jP (by assumption) rfl ?_|refine jQ ?_|refine jR ?_|refine jS ?_|refine jT ?_|refine jU (by assumption) rfl ?_))
  refine M.call_i (awake54_ret w9) ?_; rintro _ w10 ⟨rfl, k10⟩
  (repeat (first|refine ja ?_|refine jb ?_|refine jc ?_|refine jd ?_|refine je ?_|refine jf ?_|refine jg ?_|refine jh ?_|refine ji ?_|refine jj ?_|refine jk ?_|refine jl ?_|refine jm ?_|refine jn ?_|refine jo ?_|refine jp ?_|refine jq ?_|refine jr ?_|refine js ?_|refine jt ?_|refine ju ?_|refine jv ?_|refine jw ?_|refine jx ?_|refine jy ?_|refine jz ?_|refine jA ?_|refine jB ?_|refine jC ?_|refine jD ?_|refine jE ?_|refine jF ?_|refine jG ?_|refine jH ?_|refine jI ?_|refine jJ ?_|refine jK ?_|refine jL ?_|refine jM (by assumption) ?_|refine jN (by assumption) rfl ?_|refine jO (by assumption) ?_|refine jP (by assumption) rfl ?_|refine jQ ?_|refine jR ?_|refine jS ?_|refine jT ?_|refine jU (by assumption) rfl ?_))
  exact ⟨rfl, ((k05.trans k8 (fun _ _ h => h)).trans k9 (fun _ _ h => h)).trans k10 (fun _ _ h => h)⟩
end Go.Proofs.Ythkkjjbjpbgcpaa
