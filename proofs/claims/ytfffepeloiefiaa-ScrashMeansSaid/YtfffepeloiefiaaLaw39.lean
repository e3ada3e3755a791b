import Derived.Test.YtfffepeloiefiaaScr39
namespace Go.Proofs.Ytfffepeloiefiaa
open Go.Mw
set_option linter.unusedVariables false
set_option linter.unusedSimpArgs false
set_option maxRecDepth 100000
attribute [local irreducible] M.val M.unit M.next M.pick M.new M.nilCheck M.load1 M.loadA M.store M.fieldAddr M.indexSl M.indexArr M.slice M.makeSlice M.buildSlice M.len M.lenS M.cap M.append M.extract M.conv M.not M.neg M.bin M.shift M.eqB M.eqNil M.call M.callv M.gd M.share M.cond M.loop M.draw pureW readW Ret
/-! breakwater/breakwaterlaw39.ScrashLooks: function 3 -/
def sh3 (x0 x1 : Value) (R : Kt) (w : World) : Prop :=
  M.new 25 (Value.cells x0) (fun t2 w =>
  M.loadA 3 t2 (fun t9 w =>
  M.call Try.prog 5 #[t9] (fun t10 w =>
  M.not t10 (fun t11 w =>
  M.cond t11
  (M.call Try.prog 6 #[] (fun t12 w =>
  R t12 w) w)
  (M.loadA 3 t2 (fun t13 w =>
  M.call Try.prog 7 #[t13, x1] (fun t15 w =>
  M.loop [(Value.slice none 0 0), (Value.int IntKind.i64 0)] (fun s1 K1 w => ∀ _ : List Value,
  M.len t15 (fun t18 w =>
  M.bin .lss (s1.getD 1 undef) t18 (fun t19 w =>
  M.cond t19
  (M.indexSl 1 t15 (s1.getD 1 undef) (fun t25 w =>
  M.load1 t25 (fun t26 w =>
  M.conv .u64 t26 (fun t27 w =>
  M.buildSlice 30 1 #[.int .u64 0] 1 [(0, t27)] (fun t28 w =>
  M.append 30 1 8 #[.int .u64 0] (s1.getD 0 undef) t28 (fun t29 w =>
  M.bin .add (s1.getD 1 undef) (Value.int IntKind.i64 1) (fun t21 w =>
  K1 [t29, t21] w) w) w) w) w) w) w)
  (M.fieldAddr 0 t2 (fun t30 w =>
  M.load1 t30 (fun t31 w =>
  M.call Try.prog 8 #[t31] (fun t32 w =>
  M.new 25 #[.slice none 0 0, .slice none 0 0, .int .i64 0] (fun t8 w =>
  M.store 3 t8 t32 (fun _ w =>
  M.draw (fun w =>
  M.loadA 3 t2 (fun t33 w =>
  M.loadA 3 t2 (fun t35 w =>
  M.call Try.prog 10 #[t33] (fun t34 w =>
  ((M.loadA 3 t2 (fun v' _ => v' = t35) w) ∧ M.call Try.prog 12 #[t35] (fun t36 w =>
  M.call Try.prog 11 #[t36] (fun t37 w =>
  M.call Try.prog 9 #[t34, t37] (fun t38 w =>
  M.gd t38 true (fun k w => k (s1.getD 0 undef) w) (fun t40 w =>
  M.gd t38 true (fun k w => M.loadA 3 t2 k w) (fun t41 w =>
  M.gd t38 true (fun k w => k x1 w) (fun t43 w =>
  M.gd t38 true (fun k w => M.call Try.prog 12 #[t41] k w) (fun t42 w =>
  M.gd t38 true (fun k w => M.call Try.prog 14 #[t42, t43] k w) (fun t44 w =>
  M.gd t38 true (fun k w => M.call Try.prog 13 #[t40, t44] k w) (fun t45 w =>
  M.pick t38 t45 (Value.bool false) (fun t46 w =>
  M.gd t46 true (fun k w => M.fieldAddr 0 t8 k w) (fun t48 w =>
  M.gd t46 true (fun k w => M.load1 t48 k w) (fun t49 w =>
  M.gd t46 true (fun k w => M.fieldAddr 0 t2 k w) (fun t50 w =>
  M.gd t46 true (fun k w => M.load1 t50 k w) (fun t51 w =>
  M.gd t46 true (fun k w => M.call Try.prog 9 #[t49, t51] k w) (fun t52 w =>
  M.pick t46 t52 (Value.bool false) (fun t53 w =>
  M.gd t53 true (fun k w => M.fieldAddr 1 t8 k w) (fun t55 w =>
  M.gd t53 true (fun k w => M.load1 t55 k w) (fun t56 w =>
  M.gd t53 true (fun k w => M.len t56 k w) (fun t57 w =>
  M.gd t53 true (fun k w => M.bin .eql t57 (Value.int IntKind.i64 0) k w) (fun t58 w =>
  M.pick t53 t58 (Value.bool false) (fun t59 w =>
  M.gd t59 true (fun k w => M.fieldAddr 2 t8 k w) (fun t61 w =>
  M.gd t59 true (fun k w => M.load1 t61 k w) (fun t62 w =>
  M.gd t59 true (fun k w => M.bin .eql t62 (Value.int IntKind.i64 0) k w) (fun t63 w =>
  M.pick t59 t63 (Value.bool false) (fun t64 w =>
  M.gd t64 true (fun k w => M.call Try.prog 6 #[] k w) (fun t66 w =>
  ((M.gd t59 true (fun k w => M.load1 t61 k w) (fun v' _ => v' = t62) w) ∧ ((M.gd t53 true (fun k w => M.load1 t55 k w) (fun v' _ => v' = t56) w) ∧ M.pick t64 t66 (Value.bool false) (fun t67 w =>
  R t67 w) w))) w) w) w) w) w) w) w) w) w) w) w) w) w) w) w) w) w) w) w) w) w) w) w) w) w) w)) w) w) w) w) w) w) w) w) w)) w) w) w) w) w)) w) w) w) w
theorem ok3 (x0 x1 : Value) (R : Kt) (w : World) (h : sh3 x0 x1 R w) : Ret Try.prog 3 #[x0, x1] w R :=
  ret_mk <| calls_of_comp mixed (c := Try.f3.body.getD .skip) (args := [x0, x1]) (rs := [(ResultVar.tmp 4)]) (Ann.seq Ann.text (Ann.seq (Ann.seq Ann.text (Ann.cond (Ann.seq Ann.text Ann.leaf) Ann.leaf)) (Ann.seq Ann.text (Ann.seq Ann.text (Ann.seq (Ann.seq Ann.text (Ann.block (Ann.loop [6, 7] [16, 17, 18, 19, 20, 21, 22, 23, 24, 25, 26, 27, 28, 29] (Ann.seq (Ann.seq Ann.text (Ann.cond Ann.leaf Ann.leaf)) (Ann.seq (Ann.block Ann.text) Ann.text))))) (Ann.seq Ann.text (Ann.seq (Ann.draw (Sch.take 0 (Sch.take 2 (Sch.one 1 (Sch.one 3 (Sch.one 4 (Sch.one 5 (Sch.take 6 (Sch.take 7 (Sch.take 8 (Sch.take 10 (Sch.one 9 (Sch.one 11 (Sch.one 12 (Sch.take 13 (Sch.take 14 (Sch.take 15 (Sch.take 16 (Sch.take 17 (Sch.take 18 (Sch.one 19 (Sch.take 20 (Sch.take 21 (Sch.take 22 (Sch.take 23 (Sch.take 24 (Sch.take 25 (Sch.take 26 (Sch.take 27 (Sch.take 28 (Sch.take 29 (Sch.take 30 (Sch.take 31 (Sch.take 32 (Sch.one 33 (Sch.take 34 (Sch.take 35 Sch.done))))))))))))))))))))))))))))))))))))) Ann.leaf)))))))
    Try.func3 (by kernel_rfl) (by kernel_rfl)
    (Eq.mp (by kernel_rfl) h)
/-! breakwater/breakwaterlaw39.awake: function 6 -/
def sh6 (R : Kt) (w : World) : Prop :=
  M.buildSlice 3 1 #[.int .i64 0] 2 [(0, (Value.int IntKind.i64 7)), (1, (Value.int IntKind.i64 8))] (fun t3 w =>
  pureW Try.prog (Instr.build 55 #[(0, (Value.int IntKind.i64 0)), (1, (Value.int IntKind.i64 3))]) (fun t4 w =>
  pureW Try.prog (Instr.build 55 #[(0, (Value.int IntKind.i64 0)), (1, (Value.int IntKind.i64 4)), (2, (Value.int IntKind.i64 1))]) (fun t5 w =>
  M.buildSlice 55 3 #[.int .i64 0, .int .i64 0, .int .i64 0] 2 [(0, t4), (1, t5)] (fun t6 w =>
  pureW Try.prog (Instr.build 25 #[(0, t3), (1, t6), (2, (Value.int IntKind.i64 1))]) (fun t7 w =>
  M.new 25 #[.slice none 0 0, .slice none 0 0, .int .i64 0] (fun t1 w =>
  M.store 3 t1 t7 (fun _ w =>
  M.buildSlice 3 1 #[.int .i64 0] 1 [(0, (Value.int IntKind.i64 5))] (fun t8 w =>
  M.call Try.prog 8 #[t8] (fun t9 w =>
  M.new 25 #[.slice none 0 0, .slice none 0 0, .int .i64 0] (fun t2 w =>
  M.store 3 t2 t9 (fun _ w =>
  M.loadA 3 t1 (fun t10 w =>
  M.call Try.prog 10 #[t10] (fun t11 w =>
  M.buildSlice 3 1 #[.int .i64 0] 3 [(0, (Value.int IntKind.i64 0)), (1, (Value.int IntKind.i64 1)), (2, (Value.int IntKind.i64 3))] (fun t12 w =>
  M.call Try.prog 9 #[t11, t12] (fun t13 w =>
  M.gd t13 true (fun k w => M.loadA 3 t1 k w) (fun t15 w =>
  M.gd t13 true (fun k w => M.call Try.prog 7 #[t15, (Value.int IntKind.i64 3)] k w) (fun t16 w =>
  M.gd t13 true (fun k w => M.buildSlice 3 1 #[.int .i64 0] 2 [(0, (Value.int IntKind.i64 4)), (1, (Value.int IntKind.i64 8))] k w) (fun t17 w =>
  M.gd t13 true (fun k w => M.call Try.prog 9 #[t16, t17] k w) (fun t18 w =>
  M.pick t13 t18 (Value.bool false) (fun t19 w =>
  M.gd t19 true (fun k w => M.loadA 3 t1 k w) (fun t21 w =>
  M.gd t19 true (fun k w => M.call Try.prog 7 #[t21, (Value.int IntKind.i64 1)] k w) (fun t22 w =>
  M.gd t19 true (fun k w => M.buildSlice 3 1 #[.int .i64 0] 2 [(0, (Value.int IntKind.i64 3)), (1, (Value.int IntKind.i64 8))] k w) (fun t23 w =>
  M.gd t19 true (fun k w => M.call Try.prog 9 #[t22, t23] k w) (fun t24 w =>
  M.pick t19 t24 (Value.bool false) (fun t25 w =>
  M.gd t25 true (fun k w => M.fieldAddr 0 t2 k w) (fun t27 w =>
  M.gd t25 true (fun k w => M.load1 t27 k w) (fun t28 w =>
  M.gd t25 true (fun k w => M.buildSlice 3 1 #[.int .i64 0] 1 [(0, (Value.int IntKind.i64 5))] k w) (fun t29 w =>
  M.gd t25 true (fun k w => M.call Try.prog 9 #[t28, t29] k w) (fun t30 w =>
  M.pick t25 t30 (Value.bool false) (fun t31 w =>
  M.gd t31 true (fun k w => M.fieldAddr 1 t2 k w) (fun t33 w =>
  M.gd t31 true (fun k w => M.load1 t33 k w) (fun t34 w =>
  M.gd t31 true (fun k w => M.len t34 k w) (fun t35 w =>
  M.gd t31 true (fun k w => M.bin .eql t35 (Value.int IntKind.i64 0) k w) (fun t36 w =>
  M.pick t31 t36 (Value.bool false) (fun t37 w =>
  M.gd t37 true (fun k w => M.fieldAddr 2 t2 k w) (fun t39 w =>
  M.gd t37 true (fun k w => M.load1 t39 k w) (fun t40 w =>
  M.gd t37 true (fun k w => M.bin .eql t40 (Value.int IntKind.i64 0) k w) (fun t41 w =>
  M.pick t37 t41 (Value.bool false) (fun t42 w =>
  R t42 w) w) w) w) w) w) w) w) w) w) w) w) w) w) w) w) w) w) w) w) w) w) w) w) w) w) w) w) w) w) w) w) w) w) w) w) w) w) w) w
theorem ok6 (R : Kt) (w : World) (h : sh6 R w) : Ret Try.prog 6 #[] w R :=
  ret_mk <| calls_of_comp mixed (c := Try.f6.body.getD .skip) (args := []) (rs := [(ResultVar.tmp 0)]) (Ann.seq Ann.text (Ann.seq Ann.text (Ann.seq Ann.text (Ann.seq Ann.text Ann.leaf))))
    Try.func6 (by kernel_rfl) (by kernel_rfl)
    (Eq.mp (by kernel_rfl) h)

def fewS (d : SDv) : Bool := decide (d.disk.length ≤ 60) && decide (d.pend.length ≤ 40) && (decide (d.pend.length ≤ 9) || decide (12 < d.pend.length))
def plainD (d : SDv) : Dv := ⟨d.disk.map (fun x => BitVec.ofInt 64 x), d.pend.map (fun p => ⟨p.b, BitVec.ofInt 64 p.v, p.e⟩), d.ep⟩
section
variable {w : World} {D : Nat → Prop} {a b : Value} {d : SDv}
theorem few39_ret (h : SDvO w D a b d) :
    Ret Try.prog 5 #[.agg ⟨[a, b, vi d.ep]⟩] w (fun r w' => r = .bool (fewS d) ∧ Keep w w' No) := by
  obtain ⟨⟨B, cb, rfl, _, _⟩, A, c, rfl, _, _⟩ := h
  refine ok5 _ _ _ ?_
  unfold sh5
  refine M.new_i (l := [.slice B d.disk.length cb, .slice A d.pend.length c, vi d.ep]) (fun w1 b1 k1 s1 => ?_)
  unfold fewS
  by_cases h1 : d.disk.length ≤ 60
  · by_cases h2 : d.pend.length ≤ 40
    · by_cases h3 : d.pend.length ≤ 9
      · rw [decide_eq_true h1, decide_eq_true h2, decide_eq_true h3]
        (repeat (first|refine ja ?_|refine jb ?_|refine jc ?_|refine jd ?_|refine je ?_|refine jf ?_|refine jg ?_|refine jh ?_|refine ji ?_|refine jj ?_|refine jk ?_|refine jl ?_|refine jm ?_|refine jn ?_|refine jo ?_|refine jp ?_|refine jq ?_|refine jr ?_|refine js ?_|refine jt ?_|refine ju ?_|refine jv ?_|refine jw ?_|refine jx ?_|refine jy ?_|refine jz ?_|refine jA ?_|refine jB ?_|refine jC ?_|refine jD ?_|refine jE ?_|refine jF ?_|refine jG ?_|refine jH ?_|refine jI ?_|refine jJ ?_|refine jK ?_|refine jL ?_|refine jM (by assumption) ?_|refine jN (by assumption) rfl ?_|refine jO (by assumption) ?_|refine jP (by assumption) rfl ?_|refine jQ ?_|refine jR ?_|refine jS ?_|refine jT ?_|refine jU (by assumption) rfl ?_))
        exact ⟨rfl, k1⟩
      · by_cases h4 : 12 < d.pend.length
        · rw [decide_eq_true h1, decide_eq_true h2, decide_eq_false h3, decide_eq_true h4]
          (repeat (first|refine ja ?_|refine jb ?_|refine jc ?_|refine jd ?_|refine je ?_|refine jf ?_|refine jg ?_|refine jh ?_|refine ji ?_|refine jj ?_|refine jk ?_|refine jl ?_|refine jm ?_|refine jn ?_|refine jo ?_|refine jp ?_|refine jq ?_|refine jr ?_|refine js ?_|refine jt ?_|refine ju ?_|refine jv ?_|refine jw ?_|refine jx ?_|refine jy ?_|refine jz ?_|refine jA ?_|refine jB ?_|refine jC ?_|refine jD ?_|refine jE ?_|refine jF ?_|refine jG ?_|refine jH ?_|refine jI ?_|refine jJ ?_|refine jK ?_|refine jL ?_|refine jM (by assumption) ?_|refine jN (by assumption) rfl ?_|refine jO (by assumption) ?_|refine jP (by assumption) rfl ?_|refine jQ ?_|refine jR ?_|refine jS ?_|refine jT ?_|refine jU (by assumption) rfl ?_))
          exact ⟨rfl, k1⟩
        · rw [decide_eq_true h1, decide_eq_true h2, decide_eq_false h3, decide_eq_false h4]
          (repeat (first|refine ja ?_|refine jb ?_|refine jc ?_|refine jd ?_|refine je ?_|refine jf ?_|refine jg ?_|refine jh ?_|refine ji ?_|refine jj ?_|refine jk ?_|refine jl ?_|refine jm ?_|refine jn ?_|refine jo ?_|refine jp ?_|refine jq ?_|refine jr ?_|refine js ?_|refine jt ?_|refine ju ?_|refine jv ?_|refine jw ?_|refine jx ?_|refine jy ?_|refine jz ?_|refine jA ?_|refine jB ?_|refine jC ?_|refine jD ?_|refine jE ?_|refine jF ?_|refine jG ?_|refine jH ?_|refine jI ?_|refine jJ ?_|refine jK ?_|refine jL ?_|refine jM (by assumption) ?_|refine jN (by assumption) rfl ?_|refine jO (by assumption) ?_|refine jP (by assumption) rfl ?_|refine jQ ?_|refine jR ?_|refine jS ?_|refine jT ?_|refine jU (by assumption) rfl ?_))
          exact ⟨rfl, k1⟩
    · rw [decide_eq_true h1, decide_eq_false h2]
      (repeat (first|refine ja ?_|refine jb ?_|refine jc ?_|refine jd ?_|refine je ?_|refine jf ?_|refine jg ?_|refine jh ?_|refine ji ?_|refine jj ?_|refine jk ?_|refine jl ?_|refine jm ?_|refine jn ?_|refine jo ?_|refine jp ?_|refine jq ?_|refine jr ?_|refine js ?_|refine jt ?_|refine ju ?_|refine jv ?_|refine jw ?_|refine jx ?_|refine jy ?_|refine jz ?_|refine jA ?_|refine jB ?_|refine jC ?_|refine jD ?_|refine jE ?_|refine jF ?_|refine jG ?_|refine jH ?_|refine jI ?_|refine jJ ?_|refine jK ?_|refine jL ?_|refine jM (by assumption) ?_|refine jN (by assumption) rfl ?_|refine jO (by assumption) ?_|refine jP (by assumption) rfl ?_|refine jQ ?_|refine jR ?_|refine jS ?_|refine jT ?_|refine jU (by assumption) rfl ?_))
      exact ⟨by simp, k1⟩
  · rw [decide_eq_false h1]
    (repeat (first|refine ja ?_|refine jb ?_|refine jc ?_|refine jd ?_|refine je ?_|refine jf ?_|refine jg ?_|refine jh ?_|refine ji ?_|refine jj ?_|refine jk ?_|refine jl ?_|refine jm ?_|refine jn ?_|refine jo ?_|refine jp ?_|refine jq ?_|refine jr ?_|refine js ?_|refine jt ?_|refine ju ?_|refine jv ?_|refine jw ?_|refine jx ?_|refine jy ?_|refine jz ?_|refine jA ?_|refine jB ?_|refine jC ?_|refine jD ?_|refine jE ?_|refine jF ?_|refine jG ?_|refine jH ?_|refine jI ?_|refine jJ ?_|refine jK ?_|refine jL ?_|refine jM (by assumption) ?_|refine jN (by assumption) rfl ?_|refine jO (by assumption) ?_|refine jP (by assumption) rfl ?_|refine jQ ?_|refine jR ?_|refine jS ?_|refine jT ?_|refine jU (by assumption) rfl ?_))
    exact ⟨by simp, k1⟩
set_option maxHeartbeats 1000000 in
theorem plain_ret (h : SDvO w D a b d) (hf : d.few) :
    Ret Try.prog 12 #[.agg ⟨[a, b, vi d.ep]⟩] w (fun r w' => ∃ u v, r = .agg ⟨[u, v, vi (plainD d).ep]⟩ ∧ DvO w' (w.heap.size ≤ ·) u v (plainD d) ∧ Keep w w' No) := by
  have hp1 : d.disk.length ≤ 1000000 := hf.1
  have hp2 : d.pend.length ≤ 1000000 := hf.2
  have h := h.mono (D' := (· < w.heap.size)) (fun b hb _ => hb)
  obtain ⟨⟨B, cb, rfl, hrb, hcb⟩, A, c, rfl, hr, hc⟩ := h
  refine ok12 _ _ _ ?_
  unfold sh12
  refine M.new_i (l := [.slice B d.disk.length cb, .slice A d.pend.length c, vi d.ep]) (fun w1 b1 k1 s1 => ?_)
  refine M.new_i (l := [.slice none 0 0, .slice none 0 0, vi 0]) (fun w2 b2 k2 s2 => ?_)
  have b12 := b1.keep k2 (fun h => h)
  (repeat (first|refine ja ?_|refine jb ?_|refine jc ?_|refine jd ?_|refine je ?_|refine jf ?_|refine jg ?_|refine jh ?_|refine ji ?_|refine jj ?_|refine jk ?_|refine jl ?_|refine jm ?_|refine jn ?_|refine jo ?_|refine jp ?_|refine jq ?_|refine jr ?_|refine js ?_|refine jt ?_|refine ju ?_|refine jv ?_|refine jw ?_|refine jx ?_|refine jy ?_|refine jz ?_|refine jA ?_|refine jB ?_|refine jC ?_|refine jD ?_|refine jE ?_|refine jF ?_|refine jG ?_|refine jH ?_|refine jI ?_|refine jJ ?_|refine jK ?_|refine jL ?_|refine jM (by assumption) ?_|refine jN (by assumption) rfl ?_|refine jO (by assumption) ?_|refine jP (by assumption) rfl ?_|refine jQ ?_|refine jR ?_|refine jS ?_|refine jT ?_|refine jU (by assumption) rfl ?_))
  refine M.pure_i (.agg #[.slice none 0 0, .slice none 0 0, vi d.ep]) (fun _ => by kernel_rfl) ?_
  refine M.new_i (l := [.slice none 0 0, .slice none 0 0, vi 0]) (fun w3 b3 k3 s3 => ?_)
  refine M.storeAll_i b3 rfl rfl (List.all_eq_true.1 rfl) (fun w4 b4 k4 s4 => ?_)
  have b14 := (b12.keep k3 (fun h => h)).keep k4 (fun h => by omega)
  have b24 := (b2.keep k3 (fun h => h)).keep k4 (fun h => by omega)
  have k04 : Keep w w4 No := ((k1.trans k2 (fun _ _ h => h)).trans k3 (fun _ _ h => h)).trans k4 (fun b hb h => by omega)
  refine M.loop_i (σ := Nat) (fun i vals w' => ∃ sv, vals = [vi i] ∧ i ≤ d.disk.length ∧ GW w' (w4.heap.size ≤ ·) sv ((plainD d).disk.take i) ∧ Blk w' w2.heap.size [sv, .slice none 0 0, vi d.ep] ∧ Keep w4 w' (fun b => b = w2.heap.size ∨ w4.heap.size ≤ b)) (fun i => d.disk.length - i) 0
    ⟨_, rfl, by omega, GC.nil _ _ _, b4, Keep.refl _ _⟩ ?_
  rintro i vals w5 K ⟨sv, rfl, hi, g5, b5, k5⟩ hK _
  simp only [List.getD_cons_zero, List.getD_cons_succ]
  have k05 : Keep w w5 No := k04.trans k5 (fun b hb h => by rcases h with h | h <;> omega)
  have b15 := b14.keep k5 (fun h => by rcases h with h | h <;> omega)
  have b25 := b24.keep k5 (fun h => by rcases h with h | h <;> omega)
  have hdl : (plainD d).disk.length = d.disk.length := by simp [plainD]
  by_cases hlt : i < d.disk.length
  · obtain ⟨x, hx⟩ : ∃ x, d.disk[i]? = some x := ⟨_, List.getElem?_eq_getElem hlt⟩
    have kd := Keep.drew w5 No
    have b15d := b15.keep kd (fun h => h)
    have b5d := b5.keep kd (fun h => h)
    have g5d := g5.keep kd (fun _ _ _ h => h)
    have hrd := (hrb.keep k05 (fun _ _ _ h => h)).keep kd (fun _ _ _ h => h)
    (repeat (first|refine ja ?_|refine jb ?_|refine jc ?_|refine jd ?_|refine je ?_|refine jf ?_|refine jg ?_|refine jh ?_|refine ji ?_|refine jj ?_|refine jk ?_|refine jl ?_|refine jm ?_|refine jn ?_|refine jo ?_|refine jp ?_|refine jq ?_|refine jr ?_|refine js ?_|refine jt ?_|refine ju ?_|refine jv ?_|refine jw ?_|refine jx ?_|refine jy ?_|refine jz ?_|refine jA ?_|refine jB ?_|refine jC ?_|refine jD ?_|refine jE ?_|refine jF ?_|refine jG ?_|refine jH ?_|refine jI ?_|refine jJ ?_|refine jK ?_|refine jL ?_|refine jM (by assumption) ?_|refine jN (by assumption) rfl ?_|refine jO (by assumption) ?_|refine jP (by assumption) rfl ?_|refine jQ ?_|refine jR ?_|refine jS ?_|refine jT ?_|refine jU (by assumption) rfl ?_))
    refine M.idxLV_i hrd rfl (by omega) (by omega) (x := x) (by simpa using hx) (fun bb oo hA hcc => ?_)
    have hbb : bb < w.heap.size := by
      rcases hrb with h | ⟨bq, oq, cq, Tq, fq, hq1, hq2, _⟩
      · have : d.disk = [] := by simpa using h
        rw [this] at hlt; simp at hlt
      · rw [hq1] at hA
        simp only [Option.some.injEq, Addr.mk.injEq] at hA
        rw [← hA.1]; exact hq2
    (repeat (first|refine ja ?_|refine jb ?_|refine jc ?_|refine jd ?_|refine je ?_|refine jf ?_|refine jg ?_|refine jh ?_|refine ji ?_|refine jj ?_|refine jk ?_|refine jl ?_|refine jm ?_|refine jn ?_|refine jo ?_|refine jp ?_|refine jq ?_|refine jr ?_|refine js ?_|refine jt ?_|refine ju ?_|refine jv ?_|refine jw ?_|refine jx ?_|refine jy ?_|refine jz ?_|refine jA ?_|refine jB ?_|refine jC ?_|refine jD ?_|refine jE ?_|refine jF ?_|refine jG ?_|refine jH ?_|refine jI ?_|refine jJ ?_|refine jK ?_|refine jL ?_|refine jM (by assumption) ?_|refine jN (by assumption) rfl ?_|refine jO (by assumption) ?_|refine jP (by assumption) rfl ?_|refine jQ ?_|refine jR ?_|refine jS ?_|refine jT ?_|refine jU (by assumption) rfl ?_))
    refine M.toWord_i ?_
    refine M.buildSlice_i [vw (BitVec.ofInt 64 x)] (by kernel_rfl) (fun w6 b6 k6 s6 => ?_)
    have b16 := b15d.keep k6 (fun h => h)
    have b56 := b5d.keep k6 (fun h => h)
    have hcc6 := k6.cell (fun h => h) hcc
    refine M.st_i hcc6 ?_
    refine M.stB_i b16 rfl ?_
    refine M.stB_i b56 rfl ?_
    have hgl : ((plainD d).disk.take i).length = i := by rw [List.length_take, hdl]; omega
    refine M.append_i (g5d.keep k6 (fun _ _ _ h => h)) (Row.of_blk' (D := fun _ => True) b6 trivial) rfl (by simp; rfl) rfl (by omega) (by omega) (fun v7 w7 g7 k7 => ?_)
    have q6 := k6.size
    have q04 := k04.size
    have e5 : w5.drew.heap.size = w5.heap.size := rfl
    have q5 := k5.size
    have b17 := b16.keep k7 (fun h => by have h : w4.heap.size ≤ w.heap.size := h; omega)
    have b57 := b56.keep k7 (fun h => by have h : w4.heap.size ≤ w2.heap.size := h; omega)
    refine M.st_i (k7.cell (fun h => by have h : w4.heap.size ≤ bb := h; omega) hcc6) ?_
    refine M.stB_i b17 rfl ?_
    have hv7 := GC.one g7
    (repeat (first|refine ja ?_|refine jb ?_|refine jc ?_|refine jd ?_|refine je ?_|refine jf ?_|refine jg ?_|refine jh ?_|refine ji ?_|refine jj ?_|refine jk ?_|refine jl ?_|refine jm ?_|refine jn ?_|refine jo ?_|refine jp ?_|refine jq ?_|refine jr ?_|refine js ?_|refine jt ?_|refine ju ?_|refine jv ?_|refine jw ?_|refine jx ?_|refine jy ?_|refine jz ?_|refine jA ?_|refine jB ?_|refine jC ?_|refine jD ?_|refine jE ?_|refine jF ?_|refine jG ?_|refine jH ?_|refine jI ?_|refine jJ ?_|refine jK ?_|refine jL ?_|refine jM (by assumption) ?_|refine jN (by assumption) rfl ?_|refine jO (by assumption) ?_|refine jP (by assumption) rfl ?_|refine jQ ?_|refine jR ?_|refine jS ?_|refine jT ?_|refine jU (by assumption) rfl ?_))
    refine M.store_i b57 (by simp) hv7 (fun w8 b8 k8 s8 => ?_)
    (repeat (first|refine ja ?_|refine jb ?_|refine jc ?_|refine jd ?_|refine je ?_|refine jf ?_|refine jg ?_|refine jh ?_|refine ji ?_|refine jj ?_|refine jk ?_|refine jl ?_|refine jm ?_|refine jn ?_|refine jo ?_|refine jp ?_|refine jq ?_|refine jr ?_|refine js ?_|refine jt ?_|refine ju ?_|refine jv ?_|refine jw ?_|refine jx ?_|refine jy ?_|refine jz ?_|refine jA ?_|refine jB ?_|refine jC ?_|refine jD ?_|refine jE ?_|refine jF ?_|refine jG ?_|refine jH ?_|refine jI ?_|refine jJ ?_|refine jK ?_|refine jL ?_|refine jM (by assumption) ?_|refine jN (by assumption) rfl ?_|refine jO (by assumption) ?_|refine jP (by assumption) rfl ?_|refine jQ ?_|refine jR ?_|refine jS ?_|refine jT ?_|refine jU (by assumption) rfl ?_))
    refine hK (i + 1) _ _ (by omega) ⟨v7, rfl, by omega, ?_, b8, (((k5.trans kd (fun _ _ h => h.elim)).trans k6 (fun _ _ h => h.elim)).trans k7 (fun b hb h => .inr h)).trans k8 (fun b hb h => .inl h)⟩
    have e1 : (plainD d).disk.take (i + 1) = (plainD d).disk.take i ++ [BitVec.ofInt 64 x] := by
      rw [List.take_add_one]
      simp [plainD, hx]
    rw [e1]
    have g8 := (g7.keep k8 (fun b hb h e2 => by
      have e2 : b = w2.heap.size := e2
      rcases h with h | h
      · have h : w4.heap.size ≤ b := h; omega
      · omega)).mono (L' := (w4.heap.size ≤ ·)) (fun b hb h => by
      rcases h with h | h
      · exact h
      · show w4.heap.size ≤ b; omega)
    simpa [GW] using g8
  · have e : i = d.disk.length := by omega
    subst e
    have hte : (plainD d).disk.take d.disk.length = (plainD d).disk := List.take_of_length_le (by omega)
    rw [hte] at g5
    (repeat (first|refine ja ?_|refine jb ?_|refine jc ?_|refine jd ?_|refine je ?_|refine jf ?_|refine jg ?_|refine jh ?_|refine ji ?_|refine jj ?_|refine jk ?_|refine jl ?_|refine jm ?_|refine jn ?_|refine jo ?_|refine jp ?_|refine jq ?_|refine jr ?_|refine js ?_|refine jt ?_|refine ju ?_|refine jv ?_|refine jw ?_|refine jx ?_|refine jy ?_|refine jz ?_|refine jA ?_|refine jB ?_|refine jC ?_|refine jD ?_|refine jE ?_|refine jF ?_|refine jG ?_|refine jH ?_|refine jI ?_|refine jJ ?_|refine jK ?_|refine jL ?_|refine jM (by assumption) ?_|refine jN (by assumption) rfl ?_|refine jO (by assumption) ?_|refine jP (by assumption) rfl ?_|refine jQ ?_|refine jR ?_|refine jS ?_|refine jT ?_|refine jU (by assumption) rfl ?_))
    have hv5 := GC.one g5
    refine M.loop_i (σ := Nat) (fun i vals w' => ∃ pv, vals = [vi i] ∧ i ≤ d.pend.length ∧ GC w' (w5.heap.size ≤ ·) 3 pv i (((plainD d).pend.take i).flatMap PD.cells) ∧ Blk w' w2.heap.size [sv, pv, vi d.ep] ∧ Keep w5 w' (fun b => b = w2.heap.size ∨ w5.heap.size ≤ b)) (fun i => d.pend.length - i) 0
      ⟨_, rfl, by omega, GC.nil _ _ _, b5, Keep.refl _ _⟩ ?_
    rintro i vals w6 K2 ⟨pv, rfl, hi2, g6, b6, k6⟩ hK2 _
    simp only [List.getD_cons_zero, List.getD_cons_succ]
    have q04 := k04.size; have q5 := k5.size; have q05 := k05.size
    have k06 : Keep w w6 No := k05.trans k6 (fun b hb h => by rcases h with h | h <;> omega)
    have b16 := b15.keep k6 (fun h => by rcases h with h | h <;> omega)
    have b26 := b25.keep k6 (fun h => by rcases h with h | h <;> omega)
    have hpl : (plainD d).pend.length = d.pend.length := by simp [plainD]
    by_cases hlt2 : i < d.pend.length
    · obtain ⟨x, hx⟩ : ∃ x, d.pend[i]? = some x := ⟨_, List.getElem?_eq_getElem hlt2⟩
      have kd := Keep.drew w6 No
      have b16d := b16.keep kd (fun h => h)
      have b6d := b6.keep kd (fun h => h)
      have g6d := g6.keep kd (fun _ _ _ h => h)
      have hrd := (hr.keep k06 (fun _ _ _ h => h)).keep kd (fun _ _ _ h => h)
      have hrd' := hrd.mono (D' := (· < w.heap.size)) (fun b hb h => h)
      have addr : ∀ (K : Kt), (∀ bb oo, bb < w.heap.size → (∀ (j : Nat) v, x.cells[j]? = some v → w6.drew.cell? ⟨bb, oo + j, none⟩ = some v) → K (.pointer (some ⟨bb, oo, none⟩)) w6.drew) → M.indexSl 3 (.slice A d.pend.length c) (vi i) K w6.drew := fun K hK => by
        rcases hr with h | ⟨bq, oq, cq, Tq, fq, hq1, hq2, hq3⟩
        · exfalso
          have := congrArg List.length h
          rw [flat_len sp_len] at this
          simp at this; omega
        · subst hq1
          have h0 : M.indexSl 3 (.slice (some ⟨bq, oq, none⟩) d.pend.length c) (vi i) (fun t _ => t = .pointer (some ⟨bq, oq + i * 3, none⟩)) w6.drew := by
            refine M.idx_i (by omega) (by omega) ?_
            simp
          have h1 : M.indexSl 3 (.slice (some ⟨bq, oq, none⟩) d.pend.length c) (vi i) (fun t _ => ∀ (j : Nat) v, x.cells[j]? = some v → ∃ bb oo, t = .pointer (some ⟨bb, oo, none⟩) ∧ w6.drew.cell? ⟨bb, oo + j, none⟩ = some v) w6.drew :=
            M.idxSP_i hrd hx (fun b o hc j v hv => ⟨b, o, rfl, hc j v hv⟩)
          unfold M.indexSl at h0 h1 ⊢
          obtain ⟨h0a, h0b⟩ := h0
          obtain ⟨_, h1b⟩ := h1
          refine ⟨h0a, ?_⟩

          rw [h0b] at h1b ⊢
          refine hK bq _ hq2 (fun j v hv => ?_)
          obtain ⟨bb, oo, e1, e2⟩ := h1b j v hv
          simp only [Value.pointer.injEq, Option.some.injEq, Addr.mk.injEq, and_true] at e1
          rw [e1.1, e1.2]; exact e2
      (repeat (first|refine ja ?_|refine jb ?_|refine jc ?_|refine jd ?_|refine je ?_|refine jf ?_|refine jg ?_|refine jh ?_|refine ji ?_|refine jj ?_|refine jk ?_|refine jl ?_|refine jm ?_|refine jn ?_|refine jo ?_|refine jp ?_|refine jq ?_|refine jr ?_|refine js ?_|refine jt ?_|refine ju ?_|refine jv ?_|refine jw ?_|refine jx ?_|refine jy ?_|refine jz ?_|refine jA ?_|refine jB ?_|refine jC ?_|refine jD ?_|refine jE ?_|refine jF ?_|refine jG ?_|refine jH ?_|refine jI ?_|refine jJ ?_|refine jK ?_|refine jL ?_|refine jM (by assumption) ?_|refine jN (by assumption) rfl ?_|refine jO (by assumption) ?_|refine jP (by assumption) rfl ?_|refine jQ ?_|refine jR ?_|refine jS ?_|refine jT ?_|refine jU (by assumption) rfl ?_))
      refine addr _ (fun ba oa hba hca => ?_)
      refine M.field_i ?_
      refine M.load_i (hca 0 _ rfl) ?_
      (repeat (first|refine ja ?_|refine jb ?_|refine jc ?_|refine jd ?_|refine je ?_|refine jf ?_|refine jg ?_|refine jh ?_|refine ji ?_|refine jj ?_|refine jk ?_|refine jl ?_|refine jm ?_|refine jn ?_|refine jo ?_|refine jp ?_|refine jq ?_|refine jr ?_|refine js ?_|refine jt ?_|refine ju ?_|refine jv ?_|refine jw ?_|refine jx ?_|refine jy ?_|refine jz ?_|refine jA ?_|refine jB ?_|refine jC ?_|refine jD ?_|refine jE ?_|refine jF ?_|refine jG ?_|refine jH ?_|refine jI ?_|refine jJ ?_|refine jK ?_|refine jL ?_|refine jM (by assumption) ?_|refine jN (by assumption) rfl ?_|refine jO (by assumption) ?_|refine jP (by assumption) rfl ?_|refine jQ ?_|refine jR ?_|refine jS ?_|refine jT ?_|refine jU (by assumption) rfl ?_))
      refine addr _ (fun bb ob hbb hcb2 => ?_)
      refine M.field_i ?_
      refine M.load_i (hcb2 1 _ rfl) ?_
      refine M.toWord_i ?_
      (repeat (first|refine ja ?_|refine jb ?_|refine jc ?_|refine jd ?_|refine je ?_|refine jf ?_|refine jg ?_|refine jh ?_|refine ji ?_|refine jj ?_|refine jk ?_|refine jl ?_|refine jm ?_|refine jn ?_|refine jo ?_|refine jp ?_|refine jq ?_|refine jr ?_|refine js ?_|refine jt ?_|refine ju ?_|refine jv ?_|refine jw ?_|refine jx ?_|refine jy ?_|refine jz ?_|refine jA ?_|refine jB ?_|refine jC ?_|refine jD ?_|refine jE ?_|refine jF ?_|refine jG ?_|refine jH ?_|refine jI ?_|refine jJ ?_|refine jK ?_|refine jL ?_|refine jM (by assumption) ?_|refine jN (by assumption) rfl ?_|refine jO (by assumption) ?_|refine jP (by assumption) rfl ?_|refine jQ ?_|refine jR ?_|refine jS ?_|refine jT ?_|refine jU (by assumption) rfl ?_))
      refine addr _ (fun bc oc hbc hcc => ?_)
      refine M.field_i ?_
      refine M.load_i (hcc 2 _ rfl) ?_
      refine M.pure_i (.agg #[vi x.b, vw (BitVec.ofInt 64 x.v), vi x.e]) (fun _ => by kernel_rfl) ?_
      refine M.buildSlice_i [vi x.b, vw (BitVec.ofInt 64 x.v), vi x.e] (by kernel_rfl) (fun w7 b7 k7 s7 => ?_)
      have b17 := b16d.keep k7 (fun h => h)
      have b67 := b6d.keep k7 (fun h => h)
      have ca7 := k7.cell (fun h => h) (hca 0 _ rfl)
      have cb7 := k7.cell (fun h => h) (hcb2 1 _ rfl)
      have cc7 := k7.cell (fun h => h) (hcc 2 _ rfl)
      refine M.st_i cc7 ?_
      refine M.stB_i b17 rfl ?_
      refine M.st_i cb7 ?_
      refine M.stB_i b17 rfl ?_
      refine M.st_i ca7 ?_
      refine M.stB_i b17 rfl ?_
      refine M.stB_i b67 rfl ?_
      refine M.append_i (m := 1) (g6d.keep k7 (fun _ _ _ h => h)) (Row.of_blk' (D := fun _ => True) b7 trivial) rfl (List.all_eq_true.1 rfl) rfl (by omega) (by omega) (fun v8 w8 g8 k8 => ?_)
      have q7 := k7.size
      have q6 := k6.size
      have e6 : w6.drew.heap.size = w6.heap.size := rfl
      have b18 := b17.keep k8 (fun h => by have h : w5.heap.size ≤ w.heap.size := h; omega)
      have b68 := b67.keep k8 (fun h => by have h : w5.heap.size ≤ w2.heap.size := h; omega)
      refine M.st_i (k8.cell (fun h => by have h : w5.heap.size ≤ bc := h; omega) cc7) ?_
      refine M.stB_i b18 rfl ?_
      refine M.st_i (k8.cell (fun h => by have h : w5.heap.size ≤ bb := h; omega) cb7) ?_
      refine M.stB_i b18 rfl ?_
      refine M.st_i (k8.cell (fun h => by have h : w5.heap.size ≤ ba := h; omega) ca7) ?_
      refine M.stB_i b18 rfl ?_
      have hv8 := GC.one g8
      (repeat (first|refine ja ?_|refine jb ?_|refine jc ?_|refine jd ?_|refine je ?_|refine jf ?_|refine jg ?_|refine jh ?_|refine ji ?_|refine jj ?_|refine jk ?_|refine jl ?_|refine jm ?_|refine jn ?_|refine jo ?_|refine jp ?_|refine jq ?_|refine jr ?_|refine js ?_|refine jt ?_|refine ju ?_|refine jv ?_|refine jw ?_|refine jx ?_|refine jy ?_|refine jz ?_|refine jA ?_|refine jB ?_|refine jC ?_|refine jD ?_|refine jE ?_|refine jF ?_|refine jG ?_|refine jH ?_|refine jI ?_|refine jJ ?_|refine jK ?_|refine jL ?_|refine jM (by assumption) ?_|refine jN (by assumption) rfl ?_|refine jO (by assumption) ?_|refine jP (by assumption) rfl ?_|refine jQ ?_|refine jR ?_|refine jS ?_|refine jT ?_|refine jU (by assumption) rfl ?_))
      refine M.store_i b68 (by simp) hv8 (fun w9 b9 k9 s9 => ?_)
      (repeat (first|refine ja ?_|refine jb ?_|refine jc ?_|refine jd ?_|refine je ?_|refine jf ?_|refine jg ?_|refine jh ?_|refine ji ?_|refine jj ?_|refine jk ?_|refine jl ?_|refine jm ?_|refine jn ?_|refine jo ?_|refine jp ?_|refine jq ?_|refine jr ?_|refine js ?_|refine jt ?_|refine ju ?_|refine jv ?_|refine jw ?_|refine jx ?_|refine jy ?_|refine jz ?_|refine jA ?_|refine jB ?_|refine jC ?_|refine jD ?_|refine jE ?_|refine jF ?_|refine jG ?_|refine jH ?_|refine jI ?_|refine jJ ?_|refine jK ?_|refine jL ?_|refine jM (by assumption) ?_|refine jN (by assumption) rfl ?_|refine jO (by assumption) ?_|refine jP (by assumption) rfl ?_|refine jQ ?_|refine jR ?_|refine jS ?_|refine jT ?_|refine jU (by assumption) rfl ?_))
      refine hK2 (i + 1) _ _ (by omega) ⟨v8, rfl, by omega, ?_, b9, (((k6.trans kd (fun _ _ h => h.elim)).trans k7 (fun _ _ h => h.elim)).trans k8 (fun b hb h => .inr h)).trans k9 (fun b hb h => .inl h)⟩
      have e1 : ((plainD d).pend.take (i + 1)).flatMap PD.cells = ((plainD d).pend.take i).flatMap PD.cells ++ [vi x.b, vw (BitVec.ofInt 64 x.v), vi x.e] := by
        rw [List.take_add_one]
        simp [plainD, hx, PD.cells]
      rw [e1]
      exact (g8.keep k9 (fun b hb h e2 => by
        have e2 : b = w2.heap.size := e2
        rcases h with h | h
        · have h : w5.heap.size ≤ b := h; omega
        · omega)).mono (L' := (w5.heap.size ≤ ·)) (fun b hb h => by
        rcases h with h | h
        · exact h
        · show w5.heap.size ≤ b; omega)
    · have e2 : i = d.pend.length := by omega
      subst e2
      have hte2 : (plainD d).pend.take d.pend.length = (plainD d).pend := List.take_of_length_le (by omega)
      rw [hte2] at g6
      have hv6 := GC.one g6
      have g5' := g5.keep k6 (fun b hb h e2 => by
        have h : w4.heap.size ≤ b := h
        rcases e2 with e2 | e2 <;> omega)
      (repeat (first|refine ja ?_|refine jb ?_|refine jc ?_|refine jd ?_|refine je ?_|refine jf ?_|refine jg ?_|refine jh ?_|refine ji ?_|refine jj ?_|refine jk ?_|refine jl ?_|refine jm ?_|refine jn ?_|refine jo ?_|refine jp ?_|refine jq ?_|refine jr ?_|refine js ?_|refine jt ?_|refine ju ?_|refine jv ?_|refine jw ?_|refine jx ?_|refine jy ?_|refine jz ?_|refine jA ?_|refine jB ?_|refine jC ?_|refine jD ?_|refine jE ?_|refine jF ?_|refine jG ?_|refine jH ?_|refine jI ?_|refine jJ ?_|refine jK ?_|refine jL ?_|refine jM (by assumption) ?_|refine jN (by assumption) rfl ?_|refine jO (by assumption) ?_|refine jP (by assumption) rfl ?_|refine jQ ?_|refine jR ?_|refine jS ?_|refine jT ?_|refine jU (by assumption) rfl ?_))
      refine M.loadAll_i b6 rfl ?_
      refine M.storeAll_i b26 rfl rfl (by
        intro y hy
        simp only [List.mem_cons, List.not_mem_nil, or_false] at hy
        rcases hy with rfl | rfl | rfl
        · exact hv5
        · exact hv6
        · rfl) (fun w7 b7 k7 s7 => ?_)
      refine M.loadAll_i b7 rfl ?_
      have q6 := k6.size
      have g57 := g5'.keep k7 (fun b hb h e2 => by have h : w4.heap.size ≤ b := h; have e2 : b = w1.heap.size := e2; omega)
      have g67 := g6.keep k7 (fun b hb h e2 => by have h : w5.heap.size ≤ b := h; have e2 : b = w1.heap.size := e2; omega)
      refine ⟨sv, pv, rfl, ⟨(GW.lv g57).mono (fun b hb h => by have h : w4.heap.size ≤ b := h; show w.heap.size ≤ b; omega), (gc_ln hpl.symm g67).mono (fun b hb h => by have h : w5.heap.size ≤ b := h; show w.heap.size ≤ b; omega)⟩, k06.trans k7 (fun b hb h => by have h : b = w1.heap.size := h; omega)⟩
end
end Go.Proofs.Ytfffepeloiefiaa
